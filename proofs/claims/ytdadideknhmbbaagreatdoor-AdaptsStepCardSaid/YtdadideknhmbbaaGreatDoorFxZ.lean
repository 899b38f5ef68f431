/- Short steps, which chain as one term: the walk from state to state. By an AI agent. -/
import Derived.Tactics
import Derived.Tactics2
import Derived.WalkKit
import Derived.Below
import Derived.Orders
import Derived.KernelRfl
import Derived.OrdersHeld
set_option linter.unusedVariables false
set_option linter.unusedSimpArgs false
set_option linter.unusedSectionVars false
namespace Go.Fx
open Go Go.RowKit
abbrev ae:=@List.mem_cons_self
abbrev az:=@List.length_map
abbrev aX:=@List.mem_cons_of_mem
abbrev aZ:=@Nat.le_refl
abbrev bd:=@List.length_append
abbrev bl:=@Go.Sem.run_bind
abbrev bp:=@Nat.le_trans
abbrev cX:=@Nat.zero_le
abbrev ca:=@Nat.zero_add
abbrev cc:=@Nat.mul_le_mul_right
abbrev cf:=@List.not_mem_nil
abbrev cr:=@List.Perm.refl
abbrev cv:=@List.append_assoc
abbrev cz:=@Bool.and_eq_true
abbrev cZ:=@List.mem_cons
abbrev w9:=@List.take_length
abbrev da:=@List.mem_singleton
abbrev db:=@List.length_take
abbrev dc:=@List.length_cons
abbrev dk:=@Nat.add_mul
abbrev dn:=@List.eq_nil_of_length_eq_zero
abbrev dv:=@List.map_append
abbrev ea:=@List.length_set
abbrev eb:=@List.map_cons
abbrev ec:=@List.nil_append
abbrev eg:=@List.mem_append_right
abbrev ej:=@Go.Sem.run_pure
abbrev el:=@Nat.lt_or_ge
abbrev et:=@Option.getD_some
abbrev fv:=@List.sublist_append_left
abbrev fI:=@Nat.mul_add
abbrev fT:=@List.Sublist.refl
abbrev gD:=@List.append_nil
abbrev gE:=@Nat.mul_assoc
abbrev gF:=@Nat.mod_lt
abbrev gH:=@List.cons_append
abbrev gM:=@Nat.succ_pos
abbrev gN:=@Nat.lt_of_lt_of_le
abbrev gO:=@Nat.lt_of_le_of_lt
abbrev gS:=@Nat.not_lt_zero
abbrev gT:=@Nat.add_assoc
abbrev xa:=@List.take_add_one
abbrev hD:=@Nat.mul_le_mul_left
abbrev hI:=@List.mem_append_left
abbrev hW:=@List.length_replicate
abbrev ia:=@Nat.lt_succ_self
abbrev iA:=@List.length_singleton
abbrev iB:=@Bool.or_eq_true
abbrev iX:=@Nat.pow_succ
abbrev jg:=@Nat.mod_eq_of_lt
abbrev js:=@Nat.pow_le_pow_right
abbrev ka:=@Nat.mul_le_mul
abbrev kb:=@Prod.mk.injEq
abbrev kv:=@Nat.mul_lt_mul''
abbrev kI:=@Nat.mul_comm
abbrev la:=@List.map_nil
abbrev lf:=@List.filter_cons
abbrev ls:=@List.take_append_drop
abbrev nk:=@List.length_filter_le
abbrev oE:=@Bool.false_eq_true
abbrev oF:=@List.drop_eq_getElem_cons
abbrev oT:=@List.length_nil
abbrev oV:=@Bool.not_eq_true'
abbrev oX:=@Nat.eq_zero_or_pos
abbrev ph:=@Array.ext'
abbrev pq:=@List.mergeSort_perm
abbrev pr:=@List.length_range
abbrev py:=@Int.toNat_natCast
abbrev rv:=@Bool.eq_false_iff
abbrev sh:=@Nat.add_zero
abbrev sm:=@Array.length_toList
abbrev sp:=@Nat.min_eq_left
abbrev sv:=@Bool.eq_iff_iff
abbrev sz:=@Rat.pow_zero
abbrev sI:=@List.map_map
abbrev s6:=@List.foldl_cons
abbrev s7:=@List.cons.injEq
abbrev s8:=@List.Perm.append_left
abbrev s9:=@Rat.mul_nonneg
abbrev tb:=@Nat.pos_of_ne_zero
abbrev tc:=@List.filter_append
abbrev te:=@List.length_pos_of_mem
abbrev tf:=@List.drop_length
abbrev th:=@List.drop_eq_nil_of_le
abbrev ti:=@Go.MapKept.run_getObj_map
abbrev tj:=@Nat.shiftLeft_add_eq_or_of_lt
abbrev tk:=@Nat.eq_of_beq_eq_true
abbrev tn:=@List.contains_iff_mem
abbrev tp:=@Nat.pow_pos
abbrev tq:=@Nat.pow_add
abbrev tt:=@Nat.one_mul
abbrev tu:=@Nat.le_add_right
abbrev tv:=@List.countP_cons
abbrev tx:=@Rat.pow_succ
abbrev tz:=@List.map_congr_left
abbrev tA:=@Int.toNat_of_nonneg
abbrev tB:=@Option.some.inj
abbrev tC:=@Option.map_some
abbrev tD:=@Int.natCast_mul
abbrev tE:=@Classical.byContradiction
abbrev tF:=@Nat.sub_add_cancel
abbrev tG:=@List.countP_append
abbrev tH:=@Nat.zero_mul
abbrev tI:=@Nat.le_of_lt
abbrev tJ:=@Nat.div_lt_of_lt_mul
abbrev tK:=@List.mem_of_mem_take
abbrev tL:=@Nat.mul_left_comm
abbrev tM:=@List.pairwise_map
abbrev tN:=@Int.eq_ofNat_of_zero_le
abbrev tP:=@Rat.intCast_mul
abbrev tQ:=@Nat.div_le_self
abbrev tR:=@List.countP_nil
abbrev tS:=@List.replicate_succ
abbrev tT:=@List.sublist_cons_self
abbrev tU:=@Int.sign_eq_one_of_pos
abbrev tV:=@Array.getD_eq_getD_getElem?
abbrev tW:=@Go.MapKept.run_setObj_map
abbrev tX:=@BitVec.toNat_ofNat
abbrev tY:=@Nat.div_add_mod
abbrev tZ:=@List.range_succ
abbrev ua:=@Nat.lt_trans
abbrev ub:=@List.flatMap_cons
abbrev uc:=@List.eq_of_mem_replicate
abbrev ud:=@List.take_zero
abbrev ue:=@List.pairwise_mergeSort
abbrev uf:=@List.foldl_nil
abbrev ug:=@List.drop_drop
abbrev uh:=@List.any_eq_true
abbrev ui:=@Go.DataW.trod_int
abbrev uj:=@List.pairwise_cons
abbrev uk:=@List.modify_succ_cons
abbrev um:=@List.length_mergeSort
abbrev uo:=@Nat.mul_lt_mul_of_pos_right
abbrev uq:=@List.size_toArray
abbrev ur:=@List.ext_getElem?
abbrev uv:=@Int.sign_eq_neg_one_of_neg
abbrev uw:=@Bool.not_false
abbrev ux:=@Nat.shiftLeft_eq
abbrev uy:=@Nat.le_of_not_lt
abbrev uz:=@Nat.le_of_eq
abbrev uA:=@List.perm_middle
abbrev uB:=@List.mem_map
abbrev uC:=@List.getElem_mem
abbrev uD:=@List.all_eq_true
abbrev uE:=@List.sublist_append_right
abbrev uG:=@List.mem_or_eq_of_mem_set
abbrev uH:=@List.extract_eq_take_drop
abbrev uI:=@Prod.ext
abbrev uJ:=@Rat.intCast_add
abbrev uK:=@Nat.mul_ne_zero
abbrev uL:=@List.nodup_cons
abbrev uM:=@Int.tmod_lt_of_pos
abbrev uO:=@Rat.mul_pos
abbrev uP:=@Nat.add_comm
abbrev uQ:=@List.take_succ_eq_append_getElem
abbrev uR:=@List.getElem_cons_succ
abbrev uS:=@List.foldl_append
abbrev uU:=@List.set_append_right
abbrev uV:=@List.perm_append_comm
abbrev uW:=@Bool.and_eq_false_iff
abbrev uX:=@Nat.and_two_pow_sub_one_eq_mod
abbrev uY:=@List.ext_getElem
abbrev uZ:=@Nat.mul_pos
abbrev u0:=@List.Pairwise.filter
abbrev u1:=@Rat.num_eq_zero
abbrev u2:=@List.mem_append
abbrev u3:=@List.dropLast_concat_getLast
abbrev u4:=@List.all_append
abbrev u5:=@Rat.le_of_lt
abbrev u6:=@List.map_mergeSort
abbrev u7:=@Int.tmod_eq_emod_of_nonneg
abbrev u9:=@Int.natAbs_natCast
abbrev va:=@Int.sign_eq_zero_iff_zero
abbrev vb:=@Option.some.injEq
abbrev vc:=@Nat.le_succ
abbrev vd:=@List.any_eq_false
abbrev ve:=@List.length_erase_of_mem
abbrev vf:=@List.any_cons
abbrev vg:=@Bool.true_and
abbrev vh:=@Option.bind_some
abbrev vi:=@Nat.exists_eq_add_of_le
abbrev vj:=@Nat.div_eq_of_lt
abbrev vk:=@Nat.and_le_right
abbrev vl:=@List.nil_sublist
abbrev vm:=@List.mem_flatMap
abbrev vn:=@List.length_drop
abbrev vo:=@Array.toList_map
abbrev vp:=@Nat.max_self
abbrev vq:=@List.Perm.append_right
abbrev vr:=@List.mem_filter
abbrev vt:=@List.modify_zero_cons
abbrev vu:=@Array.mem_of_getElem?
abbrev vv:=@Rat.div_def
abbrev vw:=@Nat.mul_one
abbrev vz:=@List.pairwise_append
abbrev vA:=@List.nodup_nil
abbrev vB:=@List.length_dropLast
abbrev vC:=@Array.toList_extract
abbrev vD:=@Array.toList_modify
abbrev vE:=@Rat.mul_assoc
abbrev vF:=@Nat.xor_lt_two_pow
abbrev vG:=@Nat.lt_or_gt_of_ne
abbrev vH:=@Nat.add_sub_cancel
abbrev vI:=@List.mergeSort_nil
abbrev vJ:=@List.mem_mergeSort
abbrev vK:=@List.set_eq_take_append_cons_drop
abbrev vL:=@Rat.mul_def'
abbrev vM:=@Ne.symm
abbrev vN:=@Nat.mul_zero
abbrev vO:=@Nat.lt_trichotomy
abbrev vP:=@List.getElem_take
abbrev vQ:=@List.count_append
abbrev vR:=@Option.getD_none
abbrev vS:=@Nat.succ_lt_succ
abbrev vT:=@Nat.lt_of_not_le
abbrev vU:=@Nat.le_max_right
abbrev vV:=@Bool.not_eq_true
abbrev vW:=@Array.eq_empty_of_size_eq_zero
abbrev vX:=@Rat.le_refl
abbrev vY:=@Nat.pow_mul
abbrev vZ:=@List.map_id
abbrev v7:=@Int.mul_neg
abbrev v8:=@Int.mul_le_mul_of_nonneg_left
abbrev wa:=@Go.DataW.trod_struct
abbrev wb:=@Option.map_none
abbrev wc:=@Nat.le_max_left
abbrev we:=@List.sum_append
abbrev wg:=@List.set_append
abbrev wh:=@Go.IntKind.wrap_i64
abbrev wi:=@Eq.symm
abbrev wj:=@Rat.add_nonneg
abbrev wk:=@Int.natAbs_mul
abbrev wm:=@Bool.false_and
abbrev wo:=@Rat.mkRat_one
abbrev wq:=@Nat.pow_lt_pow_iff_right
abbrev wt:=@Nat.lt_irrefl
abbrev wu:=@List.sum_cons
abbrev wv:=@List.map_take
abbrev wx:=@Int.mul_ediv_cancel_left
abbrev wy:=@Bool.or_false
abbrev wz:=@Bool.false_or
abbrev wA:=@Array.setIfInBounds_comm
abbrev wB:=@Nat.add_sub_cancel_left
abbrev wC:=@List.pairwise_singleton
abbrev wD:=@List.getLast_eq_getElem
abbrev wE:=@Array.ext
abbrev wF:=@Rat.add_def'
abbrev wG:=@Nat.sub_zero
abbrev wH:=@Nat.sub_self
abbrev wI:=@Nat.lt_of_succ_lt_succ
abbrev wJ:=@List.take_of_length_le
abbrev wK:=@List.getElem_replicate
abbrev wL:=@List.getElem_cons_zero
abbrev wM:=@List.any_nil
abbrev wN:=@Go.Oper.mk.injEq
abbrev wO:=@Nat.mul_mod_mul_right
abbrev wP:=@Nat.div_lt_iff_lt_mul
abbrev wQ:=@Nat.or_comm
abbrev wR:=@List.mem_of_mem_drop
abbrev wS:=@List.mem_of_getElem?
abbrev wT:=@Int.max_def
abbrev wU:=@Bool.or_eq_false_iff
abbrev wV:=@Rat.mkRat_mul_right
abbrev wW:=@List.toList_toArray
abbrev wX:=@List.take_set_of_le
abbrev wY:=@List.getElem_of_mem
abbrev wZ:=@List.getD_cons_succ
abbrev w4:=@List.flatMap_append
abbrev w5:=@List.drop_set_of_lt
abbrev w7:=@Go.Region.noSelect_spec
abbrev w8:=@List.nodup_append
variable{Z:Option Tmp}{c8 B:Array Value}{c7 m:Operand}{H a7:Code}{b9 l:Bool}{c3 a6 c9:ResultVar}{g:Option (Nat×Bool)}{E b0:List (Nat×Obj)}{M:Nat×Nat}{W A e0:Value}{c6 d O j:Nat}{b2:Program}{a8:List (Nat×Value)}{N r:TypeId}{V J:Obj}{U:Array Oper}{C:Func}{b4:Array Operand}{a1:List Oper}{G:Prop}{b3:Oper}{b5:FuncId}{b6:Type}{Y:List Value}{F:World}{b8:Array TypeId}(b1:World)(c4:Array Value)(D e c5:Nat)(b7:Value)
theorem oo(h:G:=by omega): G:=h
theorem dd(h:G:=by decide): G:=h
theorem ss(h:G:=by simp): G:=h
theorem kk(h:G:=by kernel_rfl): G:=h
theorem kD(h:G:=by decide +kernel): G:=h
theorem I{a:b6}: a=a:=rfl
variable{ty:TypeId}{pos:String}{aft:Array Edge}
def look:List (Nat×Value)->Nat->Option Value
 | [],_=>none
 | (t,v)::L,u=>bif Nat.beq t u then some v else look L u
def ev(L:List (Nat×Value)): Operand->Option Value
 | .tmp t=>look L t
 | .const v=>some v
 | .global g=>some (.pointer (some ⟨g,0,none⟩))
 | .func f=>some (.func (.func f) #[] #[])
structure Zs where
 p:(Nat->Prop)->World->Prop
 st:∀X X' w w',p X w->(∀b,b<w.heap.size -> ¬X b->w'.heap[b]?=w.heap[b]?)->w.heap.size<=w'.heap.size ->
  (∀b,X' b->X b\/w.heap.size<=b)->p X' w'
structure St(n:Nat)(S:Nat->Prop)(w0:World)(L:List (Nat×Value))(σ:List (Nat×Obj))(Φ:List Zs)(a:Act)(w:World): Prop where
 size:a.tmps.size=n
 defers:a.defers=[]
 val:∀t v,look L t=some v->a.tmps.getD t undef=v
 ext:Below w0.heap.size w0 w
 own:∀p∈σ,w.heap[p.1]?=some p.2
 new:∀p∈σ,w0.heap.size<=p.1
 nd:σ.Pairwise (λp q=>p.1≠q.1)
 facts:∃X:Nat->Prop,(∀b,S b->X b)/\(∀p∈σ,X p.1)/\(∀b,X b->b<w.heap.size) /\ ∀R∈Φ,R.p X w
section
variable{n:Nat}{S:Nat->Prop}{w0:World}{L:List (Nat×Value)}{σ:List (Nat×Obj)}{Φ:List Zs}{a:Act}{w:World}
theorem St.ev(h:St n S w0 L σ Φ a w)(hx:ev L m=some A): a.eval m=A:=by
 cases m with
 | tmp t=>exact h.val t A hx
 | const u=>simp[Fx.ev] at hx;exact hx
 | global g=>simp[Fx.ev] at hx;simp[Act.eval,hx]
 | func f=>simp[Fx.ev] at hx;simp[Act.eval,hx]
theorem getD_set(hd:D<c4.size):
  (c4.setIfInBounds D b7).getD e undef=if D=e then b7 else c4.getD e undef:=by
 by_cases h:D=e
 ·subst h;simp[hd]
 simp[h,Array.getElem?_setIfInBounds_ne h]
theorem St.put(h:St n S w0 L σ Φ a w)(hd:d<n)(v:Value): St n S w0 ((d,v)::L) σ Φ (a.put (some d) v) w where
 size:=by simp[Act.put,h.size]
 defers:=h.defers
 val:=λt u ht=>by
  simp only[look] at ht;rw[Act.put,getD_set _ _ _ _ (by rw[h.size];exact hd)];cases b:Nat.beq d t with
  | true=>rw[b] at ht;simp at ht;rw[if_pos (tk b)];exact ht
  | false=>rw[b] at ht;simp at ht;rw[if_neg (Nat.ne_of_beq_eq_false b)];exact h.val t u ht
 ext:=h.ext
 own:=h.own
 new:=h.new
 nd:=h.nd
 facts:=h.facts
theorem St.drew(h:St n S w0 L σ Φ a w): St n S w0 L σ Φ a w.drew :=
 ⟨h.size,h.defers,h.val,h.ext.drew,h.own,h.new,h.nd,by
  obtain ⟨X,h1,c,e,d⟩:=h.facts;exact⟨X,h1,c,e,λR hR=>R.st X X w w.drew (d R hR) (λ_ _ _=>rfl) (aZ _) (λb f =>.inl f)⟩⟩
theorem St.sub(h:St n S w0 L σ Φ a w)(hs:∀t v,look a8 t=some v->look L t=some v): St n S w0 a8 σ Φ a w :=
 { h with val:=λt v ht=>h.val t v (hs t v ht) }
theorem St.own_lt(h:St n S w0 L σ Φ a w){b:Nat}{o:Obj}(d:(b,o)∈σ): b<w.heap.size:=by
 have:=h.own _ d;rcases el b w.heap.size with c|c
 ·exact c
 simp[Array.getElem?_eq_none c] at this
theorem St.alloc(h:St n S w0 L σ Φ a w)(o:Obj): St n S w0 L ((w.heap.size,o)::σ) Φ a (w.alloc o) where
 size:=h.size
 defers:=h.defers
 val:=h.val
 ext:=h.ext.alloc h.ext.size o
 own:=λp c=>by
  rcases List.mem_cons.1 c with rfl|c
  ·show(w.heap.push o)[w.heap.size]?=_;simp
  have e:=h.own_lt (b:=p.1) (o:=p.2) c;show(w.heap.push o)[p.1]?=_;rw[Array.getElem?_push,if_neg (by omega)];exact h.own p c
 new:=λp c=>by
  rcases List.mem_cons.1 c with rfl|c
  ·exact h.ext.size
  exact h.new p c
 nd:=List.pairwise_cons.2 ⟨λp c=>by have:=h.own_lt (b:=p.1) (o:=p.2) c;simp only;omega,h.nd⟩
 facts:=by
  obtain ⟨X,h1,f,i,g⟩:=h.facts;refine⟨λb=>X b\/b=w.heap.size,λb d =>.inl (h1 b d),λp c=>?_,λb d=>?_,λR hR=>?_⟩
  ·rcases List.mem_cons.1 c with rfl|c
   ·exact .inr rfl
   exact .inl (f p c)
  ·rcases d with d|d
   ·have:=i b d;simp;omega
   simp[d]
  refine R.st X _ w _ (g R hR) (λb d _=>?_) (by simp) (λb d=>?_)
  ·exact Below.heap_alloc w o b d
  rcases d with d|d
  ·exact .inl d
  exact .inr (by omega)
inductive Upd:List (Nat×Obj)->Nat->Obj->Obj->List (Nat×Obj)->Prop
 | head {b o o' σ}:Upd ((b,o)::σ) b o o' ((b,o')::σ)
 | tail {b o o' p σ σ'} (h:Upd σ b o o' σ'):Upd (p::σ) b o o' (p::σ')
theorem Upd.mem(h:Upd E d J V b0): (d,J)∈E:=by
 induction h with
 | head=>exact ae
 | tail _ a=>exact aX _ a
theorem Upd.fst(h:Upd E d J V b0): b0.map Prod.fst=E.map Prod.fst:=by
 induction h with
 | head=>rfl
 | tail _ a=>simp[a]
theorem Upd.mem'(h:Upd E d J V b0)(c:E.Pairwise (λp q=>p.1≠q.1)):
  ∀p∈b0,(p=(d,V))\/(p∈E/\p.1≠d):=by
 induction h with
 | head =>
  intro p a;rw[uj] at c;rcases List.mem_cons.1 a with rfl|a
  ·exact .inl rfl
  exact .inr ⟨aX _ a,λe=>c.1 p a e.symm⟩
 | @tail d J V q E b0 h f =>
  intro p a;rw[uj] at c;rcases List.mem_cons.1 a with rfl|a
  ·exact .inr ⟨ae,λe=>c.1 _ h.mem e⟩
  rcases f c.2 p a with j|⟨h1,g⟩
  ·exact .inl j
  exact .inr ⟨aX _ h1,g⟩
theorem OL:∀ {σ σ':List (Nat×Obj)},σ'.map Prod.fst=σ.map Prod.fst->σ.Pairwise (λp q=>p.1≠q.1)->σ'.Pairwise (λp q=>p.1≠q.1):=by
 intro σ σ' he h;have h1:(σ.map Prod.fst).Pairwise (· ≠ ·):=List.pairwise_map.2 h;rw[<-he] at h1;exact List.pairwise_map.1 h1
theorem St.turn(h:St n S w0 L σ Φ a w){σ':List (Nat×Obj)}(hu:Upd σ d J V σ')(j:F.os=w.os)(u:F.tape=w.tape)(g:F.output=w.output)(m:F.heap.size=w.heap.size)(s:F.heap[d]?=some V)(c:∀k,k≠d->F.heap[k]?=w.heap[k]?): St n S w0 L σ' Φ a F where
 size:=h.size
 defers:=h.defers
 val:=h.val
 ext:=h.ext.trans ⟨j,u,g,by omega,λk hk=>c k (by have:=h.new _ hu.mem;simp only at this;omega)⟩
 own:=λp f=>by
  rcases hu.mem' h.nd p f with rfl|⟨h1,i⟩
  ·exact s
  rw[c _ i];exact h.own p h1
 new:=λp f=>by
  rcases hu.mem' h.nd p f with rfl|⟨h1,_⟩
  ·exact h.new (d,J) hu.mem
  exact h.new p h1
 nd:=OL hu.fst h.nd
 facts:=by
  obtain ⟨X,h1,i,r,q⟩:=h.facts;refine⟨X,h1,λp f=>?_,λk hk=>by rw[m];exact r k hk,λR hR=>R.st X X w F (q R hR) (λk hk t=>c k (λe=>t (by subst e;exact i _ hu.mem))) (by omega) (λk hk =>.inl hk)⟩;rcases hu.mem' h.nd p f with rfl|⟨l,_⟩
  ·exact i (d,J) hu.mem
  exact i p l
def Zp(cs:Array Value)(off:Nat): List Value->Array Value
 | []=>cs
 | v::vs=>Zp (cs.setIfInBounds off v) (off+1) vs
theorem World.heap_setCell_self(h:b1.heap[D]?=some (.cells B r M)): (b1.setCell ⟨D,e,none⟩ b7).heap[D]?=some (.cells (B.setIfInBounds e b7) r M):=by
 simp[World.setCell,Array.getElem?_modify,h]
abbrev w6:=@World.heap_setCell_self
theorem cell_of(h:b1.heap[D]?=some (.cells B r M)):
  b1.cell? ⟨D,e,none⟩=B[e]?:=by
 simp[World.cell?,h]
theorem IN(h:b1.heap[D]?=some (.cells B r (0,0))):
  b1.frozen? ⟨D,e,none⟩=false:=by
 simp[World.frozen?,h]
theorem A8: (⟨D,e,none⟩:Addr).add c5=⟨D,e+c5,none⟩:=by
 unfold Addr.add;split
 ·simp_all
 rfl
theorem Xf{P:Program}(w:World)(b off:Nat){cs:Array Value}{T:TypeId}{fr:Nat×Nat}(h:w.heap[b]?=some (.cells cs T fr)): ∀(k i:Nat) (acc:Array Value),off+i+k<=cs.size ->
  (loadCellsFrom ⟨b,off,none⟩ i k acc).run P w=.ok (acc++cs.extract (off+i) (off+i+k)) w
 | 0,i,acc,_=>by simp[loadCellsFrom];omega
 | k+1,i,acc,hle=>by
  have hc:w.cell? ⟨b,off+i,none⟩=some (cs[off+i]'(by omega)):=by rw[cell_of w b _ h];simp
  have d:=Xf (P:=P) w b off h k (i+1) (acc.push (cs[off+i]'(by omega))) (by omega);simp only[loadCellsFrom,bl,run_load,A8,hc,Result.andThen,d];congr 1;have e:off+(i+1)+k=off+i+(k+1):=by omega
  rw[e, <-gT,Array.push_eq_append,Array.append_assoc];congr 1;apply ph;simp only[Array.toList_append,vC,uH];have f:off+i+(k+1)-(off+i)=k+1:=by omega
  have c:off+i+(k+1)-(off+i+1)=k:=by omega
  have a:off+i<cs.toList.length:=by simp;omega
  rw[f,c,oF a];simp
def Zm(agg:Bool)(s:Nat)(cs:Array Value)(off:Nat): Option Value :=
 if agg then (if off+s<=cs.size then some (.agg (cs.extract off (off+s))) else none) else cs[off]?
theorem Xz{P:Program}(h:F.heap[d]?=some (.cells B r M))(hagg:∀F,(isAgg N).run P F=.ok l F)(hs:∀F,(Go.sizeOf N).run P F=.ok O F)(hv:Zm l O B j=some A):
  (Instr.loadAt N (.pointer (some ⟨d,j,none⟩))).run P F=.ok A F:=by
 cases l with
 | false =>
  simp only[Zm,oE,if_false] at hv;simp[Instr.loadAt,Instr.sureAddr,loadVar,bl,hagg,Result.andThen,run_load,cell_of F d j h,hv]
 | true =>
  simp only[Zm,if_true] at hv;split at hv
  ·rename_i hle;cases hv
   have:=Xf (P:=P) F d j h O 0 #[] (by omega);simp[Instr.loadAt,Instr.sureAddr,loadVar,bl,hagg,hs,Result.andThen,loadCells,this]
  cases hv
theorem Xk{P:Program}(b off:Nat){T:TypeId}: ∀(vs:List Value) (i:Nat) (w:World) (cs:Array Value),
  w.heap[b]?=some (.cells cs T (0,0))->off+i+vs.length<=cs.size->(∀v∈vs,(∀c,v ≠ .agg c)/\(∀c,v ≠ .tuple c)) ->
  ∃w',(storeCells ⟨b,off,none⟩ vs i).run P w=.ok () w'/\w'.os=w.os/\w'.tape=w.tape/\w'.output=w.output/\w'.heap.size=w.heap.size /\
   w'.heap[b]?=some (.cells (Zp cs (off+i) vs) T (0,0)) /\ ∀k,k≠b->w'.heap[k]?=w.heap[k]?
 | [],i,w,cs,h,_,_=>⟨w,by simp[storeCells],rfl,rfl,rfl,rfl,h,λ_ _=>rfl⟩
 | v::vs,i,w,cs,h,hle,hv=>by
  simp only[dc] at hle;have hc:w.cell? ⟨b,off+i,none⟩=some (cs[off+i]'(by omega)):=by rw[cell_of w b _ h];simp
  have hf:=IN w b (off+i) h;have h1:=w6 w b (off+i) v h;obtain ⟨w',hr,e,l,f,j,d,g⟩:=Xk (P:=P) b off vs (i+1) (w.setCell ⟨b,off+i,none⟩ v) _ h1 (by simp;omega) (λu hu=>hv u (aX _ hu));have a:=hv v ae;refine⟨w',?_,e,l,f,by rw[j];simp[World.setCell],by rw[d,Zp,gT],λk hk=>by rw[g k hk];exact Below.heap_setCell _ _ _ _ hk⟩;simp only[storeCells,A8,bl];have hs:(store ⟨b,off+i,none⟩ v).run P w=.ok () (w.setCell ⟨b,off+i,none⟩ v):=by
   unfold Go.store;cases v<;>simp[Sem.run,hc,hf]<;>first|exact absurd rfl (a.1 _)|exact absurd rfl (a.2 _)
  rw[hs];exact hr
def flat(v:Value): Bool:=match v with | .agg _ | .tuple _=>false|_=>true
theorem DO(h:flat A=true): (∀c,A ≠ .agg c)/\(∀c,A ≠ .tuple c):=by
 cases A<;>simp[flat] at h ⊢
theorem St.store(h:St n S w0 L σ Φ a w)(hu:Upd σ d (.cells B r (0,0)) (.cells (Zp B j A.cells.toList) r (0,0)) E)(hs:∀w,(Go.sizeOf N).run b2 w=.ok O w)(e:A.cells.size=O)(hle:j+O<=B.size)(c:A.cells.toList.all flat=true):
  ∃w',(Instr.storeAt N (.pointer (some ⟨d,j,none⟩)) A).run b2 w=.ok () w'/\St n S w0 L E Φ a w' /\ ∀k,k≠d->w'.heap[k]?=w.heap[k]?:=by
 obtain ⟨w',hr,i,m,p,l,g,f⟩:=Xk (P:=b2) d j (T:=r) A.cells.toList 0 w B (h.own _ hu.mem) (by simp;omega)
  (λu hu=>DO ((List.all_eq_true.1 c) u hu))
 refine⟨w',?_,h.turn hu i m p l (by simpa using g) f,f⟩;simp[Instr.storeAt,Instr.sureAddr,storeVar,bl,hs,Result.andThen,e,hr]
variable{P:Program}{K:Act->World->Prop}{Q:Exit->Act->World->Prop}
theorem Qg{v:Value}{w':World}(hr:(execOp a.eval b3).run P w=.ok (.value v) w')(hk:K (a.put b3.dst v) w'): b3.wp P a w K Q:=by
 simp only[Oper.wp,hr,Oper.upon];exact hk
theorem Al{w':World}(hr:(execOp a.eval b3).run P w=.ok .skip w')(hk:K (a.put b3.dst undef) w'): b3.wp P a w K Q:=by
 simp only[Oper.wp,hr,Oper.upon];exact hk
inductive Pure1 (P:Program) (L:List (Nat×Value)):Op->Value->Prop
 | move {x v} (hx:Fx.ev L x=some v):Pure1 P L (.move x) v
 | assign {x v} (hx:Fx.ev L x=some v):Pure1 P L (.assign x) v
 | pickT {c x y v} (hc:Fx.ev L c=some (.bool true)) (hx:Fx.ev L x=some v):Pure1 P L (.pick c x y) v
 | pickF {c x y v} (hc:Fx.ev L c=some (.bool false)) (hy:Fx.ev L y=some v):Pure1 P L (.pick c x y) v
 | fieldAddr {T x f u v} (hx:Fx.ev L x=some u) (hr:∀w,(Instr.fieldAt T u f).run P w=.ok v w):Pure1 P L (.fieldAddr T x f) v
 | field {T x f u v} (hx:Fx.ev L x=some u) (hr:∀w,(Instr.field T u f).run P w=.ok v w):Pure1 P L (.field T x f) v
 | indexAddr {T x y u i v} (hx:Fx.ev L x=some u) (hy:Fx.ev L y=some i) (hr:∀w,(Instr.indexAt T u i).run P w=.ok v w):Pure1 P L (.indexAddr T x y) v
 | index {T x y u i v} (hx:Fx.ev L x=some u) (hy:Fx.ev L y=some i) (hr:∀w,(Instr.index T u i).run P w=.ok v w):Pure1 P L (.index T x y) v
 | binOp {op T x y T' u i v} (hx:Fx.ev L x=some u) (hy:Fx.ev L y=some i)
   (hr:∀w,(do eqGuard op T x y u i;Go.binOp op T u i:Sem Value).run P w=.ok v w):Pure1 P L (.binOp op T x y T') v
 | unOp {op T x u v} (hx:Fx.ev L x=some u) (hr:∀w,(Op.unary op u).run P w=.ok v w):Pure1 P L (.unOp op T x) v
 | convert {T T' x u v} (hx:Fx.ev L x=some u) (hr:∀w,(Go.convert T T' u).run P w=.ok v w):Pure1 P L (.convert T T' x) v
 | extract {x k u v} (hx:Fx.ev L x=some u) (hr:∀w,(Instr.extract u k).run P w=.ok v w):Pure1 P L (.extract x k) v
 | slice {T x lo hi mx u v} (hx:Fx.ev L x=some u) (lo' hi' mx':Option Value) (hl:lo.map (Fx.ev L)=lo'.map some) (hh:hi.map (Fx.ev L)=hi'.map some) (hm:mx.map (Fx.ev L)=mx'.map some)
   (hr:∀w,(Instr.sliceAt T u lo' hi' mx').run P w=.ok v w):Pure1 P L (.slice T x lo hi mx) v
 | nilCheck {x b} (hx:Fx.ev L x=some (.pointer (some b))):Pure1 P L (.nilCheck x) (.pointer (some b))
 | build {T parts v} (vs:List (Nat×Value)) (hp:parts.toList.map (λp=>(p.1,Fx.ev L p.2))=vs.map (λp=>(p.1,some p.2)))
   (hr:∀w,(Instr.build T vs.toArray).run P w=.ok v w):Pure1 P L (.build T parts) v
 | makeFunc {fn first captured} (fs cs:List Value) (hf:first.toList.map (Fx.ev L)=fs.map some) (hc:captured.toList.map (Fx.ev L)=cs.map some) :
   Pure1 P L (.makeFunc fn first captured) (.func fn fs.toArray cs.toArray)
 | builtin {b args tys v} (vs:List Value) (ha:args.toList.map (Fx.ev L)=vs.map some)
   (hr:∀w (type:TypeId) (consts:Array Bool),(Go.builtin b tys type consts vs.toArray).run P w=.ok (.value v) w):Pure1 P L (.call ⟨.builtin b,args,tys⟩) v
 | extern {f args tys v} (vs:List Value) (ha:args.toList.map (Fx.ev L)=vs.map some)
   (hr:∀w,(callFunc f vs.toArray).run P w=.ok (.value v) w):Pure1 P L (.call ⟨.value (.func f),args,tys⟩) v
theorem Pure1.cast{op:Op}{v':Value}(h:Pure1 b2 a8 op A)(e:A=v'): Pure1 b2 a8 op v':=e ▸ h
abbrev aq:=@Pure1.cast
theorem EN(h:St n S w0 L σ Φ a w){args:Array Operand}{vs:List Value}(ha:args.toList.map (Fx.ev L)=vs.map some): args.map a.eval=vs.toArray:=by
 apply ph;simp only[vo];generalize args.toList=l at ha;induction l generalizing vs with
 | nil=>cases vs<;>simp at ha ⊢
 | cons x l b =>
  cases vs with
  | nil=>simp at ha
  | cons v vs =>
   simp only[eb,s7] at ha ⊢;exact⟨h.ev ha.1,b ha.2⟩
theorem Cm(h:St n S w0 L σ Φ a w){parts:Array (Nat×Operand)}(ha:parts.toList.map (λp=>(p.1,Fx.ev L p.2))=a8.map (λp=>(p.1,some p.2))): parts.map (fun(i,x)=>(i,a.eval x))=a8.toArray:=by
 apply ph;simp only[vo];generalize parts.toList=l at ha;induction l generalizing a8 with
 | nil=>cases a8<;>simp at ha ⊢
 | cons x l b =>
  cases a8 with
  | nil=>simp at ha
  | cons v a8 =>
   simp only[eb,s7,kb] at ha ⊢;refine⟨?_,b ha.2⟩;rw[h.ev ha.1.2,ha.1.1]
theorem RE(h:St n S w0 L σ Φ a w){x:Option Operand}{v:Option Value}(ha:x.map (Fx.ev L)=v.map some): x.map a.eval=v:=by
 cases x<;>cases v<;>simp at ha ⊢
 exact h.ev ha
theorem Pure1.run(h:St n S w0 L σ Φ a w){op:Op}(c:Pure1 P L op A):
  ∀w',(execOp a.eval ⟨Z,op,ty,pos,aft,g⟩).run P w'=.ok (.value A) w':=by
 intro w';cases c with
 | move hx=>simp[execOp,h.ev hx]
 | assign hx=>simp[execOp,h.ev hx]
 | pickT hc hx=>simp[execOp,h.ev hc,h.ev hx,asBool]
 | pickF hc hx=>simp[execOp,h.ev hc,h.ev hx,asBool]
 | fieldAddr hx hr=>simp only[execOp,h.ev hx,bl,hr];rfl
 | field hx hr=>simp only[execOp,h.ev hx,bl,hr];rfl
 | indexAddr hx b hr=>simp only[execOp,h.ev hx,h.ev b,bl,hr];rfl
 | index hx b hr=>simp only[execOp,h.ev hx,h.ev b,bl,hr];rfl
 | binOp hx b hr =>
  have:=hr w';rw[bl] at this;simp only[execOp,h.ev hx,h.ev b,bl,this];rfl
 | unOp hx hr=>simp only[execOp,h.ev hx,bl,hr];rfl
 | convert hx hr=>simp only[execOp,h.ev hx,bl,hr];rfl
 | extract hx hr=>simp only[execOp,h.ev hx,bl,hr];rfl
 | slice hx d e i hl f hm hr=>simp only[execOp,h.ev hx,RE h hl,RE h f,RE h hm,bl,hr];rfl
 | nilCheck hx=>simp only[execOp,h.ev hx];rfl
 | build vs c hr=>simp only[execOp,Cm h c,bl,hr];rfl
 | makeFunc fs cs hf hc=>simp only[execOp,EN h hf,EN h hc,Instr.makeFunc];rfl
 | builtin vs ha hr =>
  simp only[execOp,resolve,EN h ha,bl];exact hr w' _ _
 | extern vs ha hr =>
  simp only[execOp,resolve,EN h ha,bl,Act.eval];simp[Deferred.ofValue,invoke,hr]
theorem ZS(h:St n S w0 L σ Φ a w){op:Op}(c:Pure1 P L op A)(hd:d<n)(k:∀b,St n S w0 ((d,A)::L) σ Φ b w->K b w): (Oper.mk (some d) op ty pos aft g).wp P a w K Q :=
 Qg (c.run h w) (k _ (h.put hd A))
theorem op_box(h:St n S w0 L σ Φ a w)(hx:Fx.ev L m=some A)(hd:d<n)(k:∀b c w',St n S w0 ((d,.pointer (some ⟨b,0,none⟩))::L) ((b,.cells A.cells r (0,0))::σ) Φ c w'->K c w'): (Oper.mk (some d) (.box r m) ty pos aft g).wp P a w K Q :=
 Qg (v:=.pointer (some ⟨w.heap.size,0,none⟩)) (w':=w.alloc (.cells A.cells r (0,0))) (by simp only[execOp,h.ev hx];rfl)
  (k _ _ _ ((h.alloc _).put hd _))
theorem iN(h:St n S w0 L σ Φ a w)(hz:∀w,(zeroValue r).run P w=.ok A w)(hd:d<n)(k:∀b c w',St n S w0 ((d,.pointer (some ⟨b,0,none⟩))::L) ((b,.cells A.cells r (0,0))::σ) Φ c w'->K c w'): (Oper.mk (some d) (.alloc r) ty pos aft g).wp P a w K Q :=
 Qg (v:=.pointer (some ⟨w.heap.size,0,none⟩)) (w':=w.alloc (.cells A.cells r (0,0))) (by
  simp only[execOp,Instr.alloc,bl,hz,Result.andThen];rfl)
  (k _ _ _ ((h.alloc _).put hd _))
theorem Rr(h:St n S w0 L σ Φ a w)(hx:Fx.ev L m=some (.pointer (some ⟨j,O,none⟩)))(hm:(j,Obj.cells B N M)∈σ)(hagg:∀w,(isAgg r).run P w=.ok l w)(hs:∀w,(Go.sizeOf r).run P w=.ok c6 w)(hv:Zm l c6 B O=some A)(hd:d<n)(k:∀c,St n S w0 ((d,A)::L) σ Φ c w->K c w): (Oper.mk (some d) (.load r m) ty pos aft g).wp P a w K Q :=
 Qg (v:=A) (w':=w) (by
  simp only[execOp,h.ev hx,bl,Xz (h.own _ hm) hagg hs hv];rfl) (k _ (h.put hd A))
theorem iJ(h:St n S w0 L σ Φ a w)(hx:Fx.ev L m=some (.pointer (some ⟨d,j,none⟩)))(l:Fx.ev L c7=some A)(c:Zp B j A.cells.toList=c8)(hu:Upd σ d (.cells B N (0,0)) (.cells c8 N (0,0)) E)(hs:∀w,(Go.sizeOf r).run P w=.ok O w)(e:A.cells.size=O)(hle:j+O<=B.size)(p:A.cells.toList.all flat=true)(k:∀f w',St n S w0 L E Φ f w'->K f w'): (Oper.mk none (.store r m c7) ty pos aft g).wp P a w K Q:=by
 subst c;obtain ⟨w',hr,q,_⟩:=h.store hu hs e hle p;exact Al (w':=w') (by simp only[execOp,h.ev hx,h.ev l,bl,hr];rfl) (k _ _ q)
def Ctr(P:Program)(f:FuncId)(args:List Value)(Φ:List Zs)(post:Value->List Zs->Prop): Prop :=
 ∀(X:Nat->Prop) (w:World),(∀b,X b->b<w.heap.size)->(∀R∈Φ,R.p X w) ->
  Calls P f args.toArray w λe w' => ∃v Ψ,e=.returned v/\post v Ψ/\Below w.heap.size w w' /\ ∀R∈Ψ,R.p X w'
theorem St.called(h:St n S w0 L σ Φ a w)(d:Below w.heap.size w F){X:Nat->Prop}{Ψ:List Zs}(h1:∀b,S b->X b)(f:∀p∈σ,X p.1)(j:∀b,X b->b<w.heap.size)(g:∀R∈Φ,R.p X w)(i:∀R∈Ψ,R.p X F): St n S w0 L σ (Ψ++Φ) a F where
 size:=h.size
 defers:=h.defers
 val:=h.val
 ext:=h.ext.trans (d.mono h.ext.size)
 own:=λp e=>by rw[d.block _ (h.own_lt (b:=p.1) (o:=p.2) e)];exact h.own p e
 new:=h.new
 nd:=h.nd
 facts:=⟨X,h1,f,λb c=>gN (j b c) d.size,λR hR=>by
  rcases List.mem_append.1 hR with hR|hR
  ·exact i R hR
  exact R.st X X w F (g R hR) (λb c _=>d.block b c) d.size (λb c =>.inl c)⟩
theorem He(h:St n S w0 L σ Φ a w){vs:List Value}{Φ':List Zs}{post:Value->List Zs->Prop}(ha:b4.toList.map (Fx.ev L)=vs.map some)(hc:∀b4 w,(callFunc b5 b4).run P w=.ok (.enter b5 b4) w)(hf:Ctr P b5 vs Φ' post)(b:∀R∈Φ',R∈Φ)(hd:d<n)(k:∀v Ψ i w',post v Ψ->St n S w0 ((d,v)::L) σ (Ψ++Φ) i w'->K i w'): (Oper.mk (some d) (.call ⟨.value (.func b5),b4,b8⟩) ty pos aft g).wp P a w K Q:=by
 obtain ⟨X,h1,o,l,j⟩:=h.facts;have hr:(execOp a.eval (Oper.mk (some d) (.call ⟨.value (.func b5),b4,b8⟩) ty pos aft g)).run P w=.ok (.enter b5 vs.toArray) w:=by
  simp only[execOp,resolve,EN h ha,bl,Act.eval];simp[Deferred.ofValue,invoke,hc]
 simp only[Oper.wp,hr,Oper.upon];refine(hf X w l (λR hR=>j R (b R hR))).mono ?_;rintro e w' ⟨v,Ψ,rfl,m,q,p⟩;exact k v Ψ _ _ m ((h.called q h1 o l j p).put hd v)
def Jk(P:Program)(f:FuncId)(args:List Value)(v:Value): Prop:=Ctr P f args [] (λu Ψ=>u=v/\Ψ=[])
def Ctr0(P:Program)(f:FuncId)(args:List Value)(post:Value->Prop): Prop:=Ctr P f args [] (λu Ψ=>post u/\Ψ=[])
theorem Xn(h:St n S w0 L σ Φ a w){vs:List Value}(ha:b4.toList.map (Fx.ev L)=vs.map some)(hc:∀b4 w,(callFunc b5 b4).run P w=.ok (.enter b5 b4) w)(hf:Jk P b5 vs A)(hd:d<n)(k:∀b w',St n S w0 ((d,A)::L) σ Φ b w'->K b w'): (Oper.mk (some d) (.call ⟨.value (.func b5),b4,b8⟩) ty pos aft g).wp P a w K Q :=
 He h ha hc hf (λ_ hR=>nomatch hR) hd λu Ψ b w' i c=>by obtain ⟨rfl,rfl⟩:=i;exact k b w' c
theorem Zi(h:St n S w0 ((d,.bool l)::L) σ Φ a w)(k1:l=true->St n S w0 ((d,.bool true)::L) σ Φ a w->G)(k2:l=false->St n S w0 ((d,.bool false)::L) σ Φ a w->G): G:=by
 cases l
 ·exact k2 rfl h
 exact k1 rfl h
theorem SV(hw:Region.wanted b3 (yielded U a.tmps)=true)(h:b3.wp P a w (wpList P U Q a1) Q): wpList P U Q (b3::a1) a w:=by
 unfold wpList;rw[if_pos hw];exact .inl h
theorem Zc{op:Op}{pos:String}{b:Array Edge}(h:(Oper.mk Z op r pos b none).wp P a w (wpList P U Q a1) Q): wpList P U Q (Oper.mk Z op r pos b none::a1) a w :=
 SV rfl h
theorem AD(h:St n S w0 L σ Φ a w){op:Op}(hj:(U[d]?).bind (·.dst)=some j)(ht:look L j=some (.bool b9)): Region.wanted (Oper.mk Z op ty pos aft (some (d,l))) (yielded U a.tmps)=(b9 == l):=by
 have hv:=h.val j _ ht;have b:j<a.tmps.size:=by
  rcases el j a.tmps.size with e|e
  ·exact e
  rw[tV,Array.getElem?_eq_none e] at hv;exact absurd hv (by simp[undef])
 have f:a.tmps[j]?=some (.bool b9):=by
  rw[tV,Array.getElem?_eq_getElem b] at hv;rw[Array.getElem?_eq_getElem b];simpa using hv
 simp only[Region.wanted,yielded,hj,f,vh];cases b9<;>cases l<;>rfl
theorem Zq{op:Op}(h:St n S w0 L σ Φ a w)(hj:(U[d]?).bind (·.dst)=some D)(ht:look L D=some (.bool l))(k:(Oper.mk Z op ty pos aft (some (d,l))).wp P a w (wpList P U Q a1) Q): wpList P U Q (Oper.mk Z op ty pos aft (some (d,l))::a1) a w :=
 SV (by rw[AD h hj ht];simp) k
theorem gk{op:Op}(h:St n S w0 L σ Φ a w)(hj:(U[j]?).bind (·.dst)=some D)(ht:look L D=some (.bool b9))(b:(b9 == l)=false)(hd:d<n)(k:∀e,St n S w0 ((d,undef)::L) σ Φ e w->wpList P U Q a1 e w): wpList P U Q (Oper.mk (some d) op ty pos aft (some (j,l))::a1) a w:=by
 unfold wpList;rw[if_neg (by rw[AD h hj ht,b];simp)];exact k _ (h.put hd _)
def mV:Nat->List Value->List (Nat×Value)
 | _,[]=>[]
 | i,v::vs=>(i,v)::mV (i+1) vs
theorem FO:∀(vs:List Value) (i t:Nat) (v:Value),look (mV i vs) t=some v->i<=t/\vs[t-i]?=some v
 | [],_,_,_,h=>by simp[mV,look] at h
 | u::vs,i,t,v,h=>by
  simp only[mV,look] at h;cases a:Nat.beq i t with
  | true =>
   have e:=tk a;subst e;rw[a] at h;exact⟨aZ _,by simpa using h⟩
  | false =>
   rw[a] at h;obtain ⟨h1,b⟩:=FO vs (i+1) t v h;refine⟨by omega,?_⟩;have e:t-i=(t-(i+1))+1:=by omega
   rw[e];simpa using b
def kZ(S:Nat->Prop)(w0:World)(post:Value->List Zs->Prop): Ending->World->Prop :=
 λe w' => ∃v Ψ,e=.returned v/\post v Ψ/\Below w0.heap.size w0 w' /\ ∀R∈Ψ,R.p S w'
theorem fn_intro{post:Value->List Zs->Prop}(hf:P.funcs[b5]?=some C)(l:C.body=some H)(m:C.ntmps=d)(hl:Y.length<=d)(h:∀S w0 a,(∀k,S k->k<w0.heap.size)->St d S w0 (mV 0 Y) [] Φ a w0->H.wp P (bodyPost P C (kZ S w0 post)) a w0): Ctr P b5 Y Φ post:=by
 intro X w j g;refine calls_of_wp hf l (h X w _ j ⟨?_,rfl,λt v ht=>?_,Below.refl _ _,(λ_ b=>nomatch b),(λ_ b=>nomatch b),List.Pairwise.nil,⟨X,λ_ h=>h,(λ_ b=>nomatch b),j,g⟩⟩)
 ·simp[m];omega
 obtain ⟨_,i⟩:=FO Y 0 t v ht;have p:t<Y.length:=by
  rcases el t Y.length with e|e
  ·exact e
  simp[List.getElem?_eq_none e] at i
 simp at i;rw[tV,Array.getElem?_append_left (by simpa using p)];simp[i]
inductive ResIs (P:Program) (L:List (Nat×Value)) (σ:List (Nat×Obj)):ResultVar->Value->Prop
 | tmp {t v} (h:look L t=some v):ResIs P L σ (.tmp t) v
 | cell {t T b cs Tb fr agg s v} (h:look L t=some (.pointer (some ⟨b,0,none⟩))) (hm:(b,Obj.cells cs Tb fr)∈σ)
   (hagg:∀w,(isAgg T).run P w=.ok agg w) (hs:∀w,(Go.sizeOf T).run P w=.ok s w) (hv:Zm agg s cs 0=some v):ResIs P L σ (.cell t T) v
theorem G7(h:F.heap[d]?=some (.cells B r M))(hagg:∀F,(isAgg N).run P F=.ok l F)(hs:∀F,(Go.sizeOf N).run P F=.ok O F)(hv:Zm l O B j=some A):
  (loadVar N ⟨d,j,none⟩).run P F=.ok A F:=by
 have:=Xz (P:=P) h hagg hs hv;simpa [Instr.loadAt,Instr.sureAddr] using this
theorem ResIs.run(h:St n S w0 L σ Φ a w)(hr:ResIs P L σ a6 A):
  (match a6 with
   | .tmp t=>(pure (a.tmps.getD t undef):Sem Value)
   | .cell x t=>do loadVar t (<-asAddr (a.tmps.getD x undef))).run P w=.ok A w:=by
 cases hr with
 | tmp ht=>simp only[h.val _ _ ht];rfl
 | cell ht hm hagg hs hv =>
  simp only[h.val _ _ ht,bl];exact G7 (h.own _ hm) hagg hs hv
theorem A2(hr:C.results=#[]): (results C a.tmps).run P w=.ok (.tuple #[]) w:=by
 simp[results,hr]
theorem Zd(h:St n S w0 L σ Φ a w)(hr:C.results=#[a6])(h1:ResIs P L σ a6 A):
  (results C a.tmps).run P w=.ok A w:=by
 have b:=h1.run h;rw[show(results C a.tmps)=(do
   let x <-(match a6 with | .tmp t=>(pure (a.tmps.getD t undef):Sem Value) | .cell x t=>do loadVar t (<-asAddr (a.tmps.getD x undef)))
   pure x) from by simp[results,hr];rfl]
 exact b
theorem Qd(h:St n S w0 L σ Φ a w)(hr:C.results=#[a6,c3])(h1:ResIs P L σ a6 A)(d:ResIs P L σ c3 W):
  (results C a.tmps).run P w=.ok (.tuple #[A,W]) w:=by
 have e:=h1.run h;have c:=d.run h;rw[show(results C a.tmps)=(do
   let x <-(match a6 with | .tmp t=>(pure (a.tmps.getD t undef):Sem Value) | .cell x t=>do loadVar t (<-asAddr (a.tmps.getD x undef)))
   let y <-(match c3 with | .tmp t=>(pure (a.tmps.getD t undef):Sem Value) | .cell x t=>do loadVar t (<-asAddr (a.tmps.getD x undef)))
   pure (.tuple #[x,y])) from by simp[results,hr];rfl]
 simp only[bl,e,c,Result.andThen];rfl
theorem BM(h:St n S w0 L σ Φ a w)(hr:C.results=#[a6,c3,c9])(h1:ResIs P L σ a6 A)(f:ResIs P L σ c3 W)(g:ResIs P L σ c9 e0):
  (results C a.tmps).run P w=.ok (.tuple #[A,W,e0]) w:=by
 have d:=h1.run h;have i:=f.run h;have e:=g.run h;rw[show(results C a.tmps)=(do
   let x <-(match a6 with | .tmp t=>(pure (a.tmps.getD t undef):Sem Value) | .cell x t=>do loadVar t (<-asAddr (a.tmps.getD x undef)))
   let y <-(match c3 with | .tmp t=>(pure (a.tmps.getD t undef):Sem Value) | .cell x t=>do loadVar t (<-asAddr (a.tmps.getD x undef)))
   let z <-(match c9 with | .tmp t=>(pure (a.tmps.getD t undef):Sem Value) | .cell x t=>do loadVar t (<-asAddr (a.tmps.getD x undef)))
   pure (.tuple #[x,y,z])) from by simp[results,hr];rfl]
 simp only[bl,d,i,e,Result.andThen];rfl
theorem Qj(h:St n S w0 L σ Φ a w){post:Value->List Zs->Prop}{Ψ:List Zs}(hr:(results C a.tmps).run P w=.ok A w)(c:post A Ψ)(hs:∀R∈Ψ,R∈Φ): bodyPost P C (kZ S w0 post) .ret a w:=by
 obtain ⟨X,h1,f,g,d⟩:=h.facts;exact⟨h.defers,A,hr,A,Ψ,rfl,c,h.ext,λR hR=>R.st X S w w (d R (hs R hR)) (λ_ _ _=>rfl) (aZ _) (λb e =>.inl (h1 b e))⟩
theorem end_of(h:St n S w0 L σ Φ a w){post:Value->List Zs->Prop}{Ψ:List Zs}(hr:(results C a.tmps).run P w=.ok A w)(b:post A Ψ)(hs:∀R∈Ψ,R∈Φ): bodyPost P C (kZ S w0 post) .normal a w:=Qj (P:=P) h hr b hs
theorem Xh(h:St n S w0 L σ Φ a w)(hr:(results C a.tmps).run P w=.ok W w)(hv:W=A):
  bodyPost P C (kZ S w0 (λW Ψ=>W=A/\Ψ=[])) .ret a w:=Qj (Ψ:=[]) h hr ⟨hv,rfl⟩ (λ_ hR=>nomatch hR)
def SR(L:List (Nat×Value)): List (Nat×Value)->Prop
 | []=>True
 | p::M=>look L p.1=some p.2/\SR L M
theorem subL:∀ {M:List (Nat×Value)},SR L M -> ∀t v,look M t=some v->look L t=some v
 | [],_,t,v,h=>by simp[look] at h
 | p::M,b,t,v,h=>by
  simp only[look] at h;cases a:Nat.beq p.1 t with
  | true=>rw[a] at h;simp at h;subst h;rw[<-tk a];exact b.1
  | false=>rw[a] at h;exact subL b.2 t v (by simpa using h)
theorem Qq(h:St n S w0 L σ Φ a w)(hc:Fx.ev L m=some (.bool true))(k:H.wp P Q a w): (Code.cond m H a7).wp P Q a w:=wp_cond_true (h.ev hc) k
theorem Zj(h:St n S w0 L σ Φ a w)(hc:Fx.ev L m=some (.bool false))(k:a7.wp P Q a w): (Code.cond m H a7).wp P Q a w:=wp_cond_false (h.ev hc) k
theorem Zb(h:St n S w0 L σ Φ a w)(hc:Fx.ev L m=some (.bool l))(k1:l=true->H.wp P Q a w)(k2:l=false->a7.wp P Q a w): (Code.cond m H a7).wp P Q a w :=
 wp_cond_split (h.ev hc) k1 k2
theorem Yv(J:Act->World->Prop)(h1:H.wp P (Exit.then J Q) a w)(b:∀a w,J a w->a7.wp P Q a w): (Code.seq H a7).wp P Q a w :=
 wp_seq (Code.wp_mono (λe a w h=>by
  cases e with
  | normal=>exact b a w h
  | _=>exact h) h1)
theorem Jl(J:b6->Act->World->Prop)(t:b6->Nat)(i0:b6)(A:J i0 a w)(round:∀i a w,J i a w->H.wp P (Exit.then (λo w' => ∃r,J r o w'/\t r<t i) Q) a w): (Code.loop H).wp P Q a w:=by
 intro b k cs;have key:∀m i a w,t i=m->J i a w ->
   ∃e o w',Q e o w'/\Arrives P (lone (b.at a (.code H :: .inLoop H::k)) cs w) b k cs e o w':=by
  intro m;induction m using Nat.strongRecOn with
  | _ m z =>
   intro i a w hm y;obtain ⟨e,f,g,hq,d⟩:=round i a w y b (.inLoop H::k) cs;cases e with
   | normal =>
    obtain ⟨r,n,u⟩:=hq;obtain ⟨p,q,s,j,h⟩:=z (t r) (hm ▸ u) r f g rfl n;exact⟨p,q,s,j,.of_steps (Steps.trans d (.one step_inLoop)) h⟩
   | exit id=>exact⟨_,f,g,hq,.pass (x:=.inLoop H) rfl (λ_ _ =>.inl (by simp)) d⟩
   | goto l=>exact⟨_,f,g,hq,.pass (x:=.inLoop H) rfl (λ_ _ =>.inl (by simp)) d⟩
   | ret=>exact⟨_,f,g,hq,.pass (x:=.inLoop H) rfl (λ_ _ =>.inl (by simp)) d⟩
   | panic B=>exact⟨_,f,g,hq,.pass (x:=.inLoop H) rfl (λ_ _ =>.inl (by simp)) d⟩
   | outgrown=>exact⟨_,f,g,hq,.pass (x:=.inLoop H) rfl (λ_ _ =>.inl (by simp)) d⟩
 obtain ⟨e,o,w',hq,d⟩:=key _ i0 a w rfl A;exact⟨e,o,w',hq,.of_steps (.one step_loop) d⟩
end
end Go.Fx
namespace Go.Fx
open Go Go.RowKit
variable{b0:World->Prop}{u:Option Tmp}{b6 C:Operand}{Z Q:Exit->Act->World->Prop}{a1 c:Bool}{a6:Option (Nat×Bool)}{k a8:Act}{O:List Nat}{G b4:List (Nat×Obj)}{N:Array Bool}{M:Nat×Nat}{U:Value->List Zs->Prop}{V:Value}{p:String}{B j b3 b2 s t R:Nat}{a7 W l:World}{X o:Oper}{m A:TypeId}{b5 Y:Obj}{D:Array Value}{e:Array TypeId}{E:Array Operand}{b1 h:Nat->Bool}{J:List Zs}{r:FuncId}{g:Array Edge}{K:Act->World->Prop}{q:Op}{F:List Value}
variable{ty:TypeId}{pos:String}{aft:Array Edge}
def Ext(w w':World): Prop:=Below w.heap.size w w'
theorem Ext.refl(w:World): Ext w w:=Below.refl _ _
theorem Ext.trans(h:Ext l W)(k:Ext W a7): Ext l a7:=Below.trans h (Below.mono k h.size)
theorem Ext.drew(w:World): Ext w w.drew:=(Below.refl _ _).drew
def early(o:Oper): Bool :=
 match o.op with
 | .store .. | .mapUpdate .. | .insert .. | .entryStore .. | .mapEntry .. =>false
 | .call ⟨.builtin b,_,_⟩=>(match b with | .len | .cap | .max | .min=>true|_=>false)
 | _=>true
section
variable{P:Program}{ops:Array Oper}
def QN(K:Exit->Act->World->Prop): Exit->Act->World->Prop
 | .normal,a,w=>K .normal a w
 | .panic ch,a,w => ∀tm,K (.panic ch) { a with tmps:=tm } w
 | _,_,_=>False
theorem nu{b:List PanicEntry}(h:QN Q (.panic b) (k.put u V) l): QN Q (.panic b) k l:=λc=>by
 have h1:=h c;cases u<;>exact h1
def isF(ops:Array Oper)(j:Nat): Bool :=
 match ops[j]? with
 | some ⟨some _,.alloc _,_,_,after,none⟩=>after.all λe => !Region.binds .any e
 | _=>false
def waits(ops:Array Oper)(j:Nat)(p:Nat->Bool): Bool :=
 match ops[j]? with
 | some o=>o.after.any λe=>Region.binds .any e && p e.on
 | none=>false
def RZ(ops:Array Oper)(t:Nat): Prop := ∀(k:Nat) (ok:Oper),ops[k]?=some ok->ok.dst=some t->isF ops k=true
theorem notF(ho:ops[j]?=some o)(h:∀T,o.op ≠ .alloc T): isF ops j=false:=by
 unfold isF;rw[ho];split
 ·rename_i d T a b c he;cases he;exact absurd rfl (h T)
 rfl
theorem noF{p:Prop}(ho:ops[j]?=some o)(h:∀T,o.op ≠ .alloc T)(hd:o.dst=some t)(hf:RZ ops t): p:=by
 have h1:=hf j o ho hd;rw[notF ho h] at h1;cases h1
def P4(o:Oper)(a:Act)(w w':World): Prop := ∀T t y p,o.op=.store T (.tmp t) y->a.tmps.getD t undef=.pointer (some p) -> ∀b,b≠p.block->w'.heap[b]?=w.heap[b]?
def Left(ops:Array Oper)(o:Oper)(a:Act)(w:World)(a':Act)(w':World): Prop :=
 (early o=true->Ext w w')/\(∀T t y p,o.op=.store T (.tmp t) y->RZ ops t->a.tmps.getD t undef=.pointer (some p) -> ∀b,b≠p.block->w'.heap[b]?=w.heap[b]?) /\
  (∀t,RZ ops t->o.dst≠some t->a'.tmps.getD t undef=a.tmps.getD t undef) /\
  ∀t,o.dst=some t->RZ ops t -> ∃b,a'.tmps.getD t undef=.pointer (some ⟨b,0,none⟩)/\w.heap.size<=b
theorem BP(ho:ops[j]?=some o)(ht:RZ ops t)(h:o.dst≠some t): (k.put o.dst V).tmps.getD t undef=k.tmps.getD t undef:=by
 cases hd:o.dst with
 | none=>rfl
 | some d =>
  have b:d≠t:=λe=>h (by rw[hd,e]);simp[Act.put,Array.getElem?_setIfInBounds_ne b]
theorem FG(ho:ops[j]?=some o)(hq:isF ops j=false)(ht:RZ ops t): (k.put o.dst V).tmps.getD t undef=k.tmps.getD t undef :=
 BP ho ht (λh=>by have h1:=ht j o ho h;rw[hq] at h1;cases h1)
theorem Left.same(ho:ops[j]?=some o)(hq:isF ops j=false): Left ops o k l (k.put o.dst V) l :=
 ⟨λ_=>Ext.refl l,λ_ _ _ _ _ _ _ _ _=>rfl,λ_ ht=>BP ho ht,λt hd hf=>by have h1:=hf j o ho hd;rw[hq] at h1;cases h1⟩
theorem Left.unput(c:ops[j]?=some o)(hq:isF ops j=false)(h:Left ops X (k.put o.dst V) l (a8.put o.dst V) W): Left ops X k l a8 W :=
 ⟨h.1,λT t y p he hf f=>h.2.1 T t y p he hf (by rw[FG c hq hf];exact f),λt ht hd=>by
  have h1:=h.2.2.1 t ht hd;rw[FG c hq ht,FG c hq ht] at h1;exact h1,λt hd hf=>by
  obtain ⟨b,h1,g⟩:=h.2.2.2 t hd hf;rw[FG c hq hf] at h1;exact⟨b,h1,g⟩⟩
def wpX(P:Program)(ops:Array Oper)(Kf:Exit->Act->World->Prop): Nat->Array Bool->Act->World->Prop
 | 0,listed,a,w=>Region.ready .any ops listed=[]/\Kf .normal a w
 | fuel+1,listed,a,w=>(Region.ready .any ops listed=[]->Kf .normal a w) /\
   ∀i∈Region.ready .any ops listed,wpOp P ops (QN Kf) i (λa' w'=>(∀o,ops[i]?=some o->Left ops o a w a' w')/\wpX P ops Kf fuel (listed.setIfInBounds i true) a' w') a w
theorem HL{Kf:Exit->Act->World->Prop}: ∀(fuel:Nat) (b:Array Bool) (a:Act) (w:World),wpX P ops Kf fuel b a w->wpAny P .any ops (QN Kf) fuel b a w
 | 0,_,_,_,h=>h
 | fuel+1,_,_,_,h=>⟨h.1,λi c=>wpOp_mono (λe w' d=>HL fuel _ e w' d.2) (h.2 i c)⟩
theorem YieldsIf.weaken{S:World->Prop}(hs:∀w,b0 w->S w)(h:YieldsIf P ops S o V k): YieldsIf P ops b0 o V k :=
 h.imp (fun⟨h1,c⟩=>⟨h1,λw hw=>c w (hs w hw)⟩) id
theorem XH(r:ops[j]?=some o)(p:∀(X:Nat) (Y:Oper) cs b,ops[X]?=some Y->Y.op ≠ .select cs b)(s:isF ops j=false)(ld:Bool)(T:List Nat):
  ∀(fuel:Nat) (c:Array Bool) (a:Act) (w:World),
   (∀X x,ops[X]?=some x->X≠j->c.getD X true=false->X∉T->o.apart ops x=true/\(ld=true->early x=true)) ->
   (∀t∈T,t<c.size/\c.getD t true=false /\ ∃N,ops[t]?=some N /\ ∃e∈N.after,Region.binds .any e=true/\(e.on=j\/e.on∈T)) ->
   j∈Region.ready .any ops c->YieldsIf P ops (λw'=>ld=true->Ext w w') o V a ->
   wpX P ops Q fuel (c.setIfInBounds j true) (a.put o.dst V) w->wpX P ops Q (fuel+1) c a w:=by
 intro fuel;induction fuel with
 | zero =>
  intro c a w _ _ hr G H;refine⟨λh=>(by rw[h] at hr;cases hr),λX hj=>?_⟩;by_cases d:X=j
  ·subst d;exact G.wpOp r (λ_=>Ext.refl w) ⟨λY ho=>by rw[r] at ho;cases ho;exact Left.same r s,H⟩
  have:=ready_mono hj d;rw[H.1] at this;cases this
 | succ fuel U =>
  intro c a w f hT hr G H;refine⟨λh=>(by rw[h] at hr;cases hr),λX hj=>?_⟩;by_cases d:X=j
  ·subst d;exact G.wpOp r (λ_=>Ext.refl w) ⟨λY ho=>by rw[r] at ho;cases ho;exact Left.same r s,H⟩
  have h1:=H.2 X (ready_mono hj d);obtain ⟨m,x,g,F⟩:=mem_ready.1 hj;have q:∀k,k<c.size->c.getD k true=false->c.getD k false=true->False:=λk hk u h1=>by
   simp[hk] at u h1;rw[u] at h1;cases h1
  have z:∀k,c.getD k true=false->k<c.size:=λk u=>by
   rcases el k c.size with M|M
   ·exact M
   simp[Array.getElem?_eq_none M] at u
  have n:X∉T:=λL=>by
   obtain ⟨_,_,N,B,e,he,W,hk⟩:=hT X L;rw[g] at B;cases B
   have h1:=F e he W;rcases hk with hk|hk
   ·have u:=(mem_ready.1 hr).1;rw[hk] at h1;exact q j (z j u) u h1
   exact q e.on (hT _ hk).1 (hT _ hk).2.1 h1
  have C:=f X x g d m n;have O:=wpOp_putIf g C.1 (λcs b=>p j o cs b r) (λcs b=>p X x cs b g) (λ_ _ _ h=>nu h) G h1;have l:∀k ok,ops[k]?=some ok->k≠j->(c.setIfInBounds X true).getD k true=false ->
    k∉T->o.apart ops ok=true/\(ld=true->early ok=true):=λk ok hk K E J=>by
   refine f k ok hk K ?_ J;by_cases A:X=k
   ·subst A;exact m
   rw[getD_set_ne true A] at E;exact E
  refine wpOp_mono (λR w' I=>⟨λY ho=>(I.2.1 Y ho).unput r s,U (c.setIfInBounds X true) R w' l (λt ht=>⟨by simpa using (hT t ht).1,by rw[getD_set_ne true (λe=>n (by rw[e];exact ht))];exact(hT t ht).2.1,(hT t ht).2.2⟩) (ready_mono hr (vM d)) (YieldsIf.weaken (λS D hl=>?_) I.1) ?_⟩) O
  ·exact((I.2.1 x g).1 (C.2 hl)).trans (D hl)
  rw[wA _ _ d];exact I.2.2
theorem gm(q:ops[j]?=some o)(u:∀(v:Nat) (a7:Oper) cs t,ops[v]?=some a7->a7.op ≠ .select cs t)(m:isF ops j=false):
  ∀(fuel:Nat) (c:Array Bool) (a:Act) (w:World),w.heap[t]?=some Y ->
   (∀v f,ops[v]?=some f->v≠j->c.getD v true=false->(∀e∈f.after,Region.binds .any e=true->e.on≠j)->o.apart ops f=true /\
    (early f=true \/ ∃T a8 y,f.op=.store T (.tmp a8) y/\RZ ops a8/\((∃p:Addr,a.tmps.getD a8 undef=.pointer (some p)/\p.block≠t) \/
     ∃k ok,ops[k]?=some ok/\ok.dst=some a8/\k<c.size/\c.getD k true=false /\ ∃e∈f.after,Region.binds .any e=true/\e.on=k))) ->
   j∈Region.ready .any ops c->YieldsIf P ops (λw'=>w'.heap[t]?=some Y) o V a ->
   wpX P ops Q fuel (c.setIfInBounds j true) (a.put o.dst V) w->wpX P ops Q (fuel+1) c a w:=by
 intro fuel;induction fuel with
 | zero =>
  intro c a w s _ hr O H;refine⟨λh=>(by rw[h] at hr;cases hr),λv hj=>?_⟩;by_cases d:v=j
  ·subst d;exact O.wpOp q s ⟨λa7 ho=>by rw[q] at ho;cases ho;exact Left.same q m,H⟩
  have:=ready_mono hj d;rw[H.1] at this;cases this
 | succ fuel ih =>
  intro c a w s g hr O H;refine⟨λh=>(by rw[h] at hr;cases hr),λv hj=>?_⟩;by_cases d:v=j
  ·subst d;exact O.wpOp q s ⟨λa7 ho=>by rw[q] at ho;cases ho;exact Left.same q m,H⟩
  have h1:=H.2 v (ready_mono hj d);obtain ⟨r,f,l,x⟩:=mem_ready.1 hj;have I:∀e∈f.after,Region.binds .any e=true->e.on≠j:=λe he s heq=>by
   have h1:=x e he s;have h0:=(mem_ready.1 hr).1;rw[heq] at h1;rcases el j c.size with D|D
   ·simp[D] at h0 h1;rw[h0] at h1;cases h1
   simp[Array.getElem?_eq_none D] at h1
  have L:=g v f l d r I;have h2:=wpOp_putIf l L.1 (λcs t=>u j o cs t q) (λcs t=>u v f cs t l) (λ_ _ _ h=>nu h) O h1;refine wpOp_mono (λa' w' i=>?_) h2;have N:Left ops f a w a' w':=(i.2.1 f l).unput q m;have S:t<w.heap.size:=by
   rcases el t w.heap.size with D|D
   ·exact D
   simp[Array.getElem?_eq_none D] at s
  have a6:w'.heap[t]?=some Y:=by
   rcases L.2 with he|⟨T,a8,y,he,hf,⟨p,Z,A⟩|⟨k,ok,hk,E,C,n,e,b,J,X⟩⟩
   ·rw[(N.1 he).block t S];exact s
   ·rw[N.2.1 T a8 y p he hf Z t (vM A)];exact s
   exfalso;have F:=x e b J;rw[X] at F;simp[C] at F n;rw[n] at F;cases F
  refine⟨λa7 ho=>(i.2.1 a7 ho).unput q m,ih (c.setIfInBounds v true) a' w' a6 ?_ (ready_mono hr (vM d)) i.1 ?_⟩
  ·intro k ok hk U M R;have K:c.getD k true=false:=by
    by_cases G:v=k
    ·subst G;exact r
    rw[getD_set_ne true G] at M;exact M
   obtain ⟨g1,g2⟩:=g k ok hk U K R;refine⟨g1,?_⟩;rcases g2 with g2|⟨T,a8,y,he,hf,g3⟩
   ·exact .inl g2
   refine .inr ⟨T,a8,y,he,hf,?_⟩;by_cases B:f.dst=some a8
   ·obtain ⟨b2,F,h6⟩:=N.2.2.2 a8 B hf;exact .inl ⟨_,F,by show b2≠t;omega⟩
   rcases g3 with ⟨p,Z,A⟩|⟨k2,W,z,E,C,n,a1⟩
   ·exact .inl ⟨p,by rw[N.2.2.1 a8 hf B];exact Z,A⟩
   refine .inr ⟨k2,W,z,E,by simpa using C,?_,a1⟩;rw[getD_set_ne true (λe=>B (by subst e;rw[l] at z;cases z;exact E))];exact n
  rw[wA _ _ d];exact i.2.2
theorem U2(hq:∀e k w,Q e k w->Z e k w){r:Result Next}(h:o.upon P k K Q r): o.upon P k K Z r:=by
 cases r with
 | ok nx w' =>
  cases nx<;>simp only[Oper.upon] at h ⊢<;>try exact h
  case enter f args =>
   refine h.mono λe d he=>?_;cases e with
   | returned v=>exact he
   | panicked c=>exact hq _ _ _ he
   | outgrown=>obtain ⟨a0,w0,g⟩:=he;exact⟨a0,w0,hq _ _ _ g⟩
 | halt x w' =>
  cases x<;>simp only[Oper.upon] at h ⊢<;>try exact h
  case panic v=>exact hq _ _ _ h
theorem Ld(hq:∀e k l,Q e k l->Z e k l)(h:wpOp P ops Q j K k l): wpOp P ops Z j K k l:=by
 unfold wpOp at *
 split
 ·rename_i ho;simp only[ho] at h;exact h
 rename_i o ho;simp only[ho] at h;split
 ·rename_i hw;simp only[hw,if_true] at h;rcases h with h|⟨h1,a0,w0,c⟩
  ·exact .inl (U2 hq h)
  exact .inr ⟨h1,a0,w0,hq _ _ _ c⟩
 rename_i hw;simp only[hw] at h;exact h
def po(d:Option Tmp)(v:Value)(L:List (Nat×Value)): List (Nat×Value) :=
 match d with
 | some d=>(d,v)::L
 | none=>L
def QV(ops:Array Oper)(i:Nat)(H:List Nat): Bool := !(waits ops i λk=>k == i || H.contains k)
def later(ops:Array Oper)(i:Nat): List Nat->List Nat->List Nat
 | acc,[]=>acc
 | acc,j::H=>if waits ops j (λk=>k == i || acc.contains k) then later ops i (j::acc) H else later ops i acc H
theorem Lh(c:∀k,h k=true->b1 k=true)(hw:waits ops j h=true): waits ops j b1=true:=by
 unfold waits at *
 split at hw
 ·obtain ⟨e,he,a⟩:=Array.any_eq_true'.1 hw;simp only[cz] at a;exact Array.any_eq_true'.2 ⟨e,he,by simp[a.1,c _ a.2]⟩
 cases hw
theorem Hn{i:Nat}: ∀(H acc:List Nat),(∀t∈acc,waits ops t (λk=>k == i || acc.contains k)=true) ->
  ∀t∈later ops i acc H,(t∈acc\/t∈H)/\waits ops t (λk=>k == i || (later ops i acc H).contains k)=true
 | [],acc,ha,t,ht=>⟨.inl ht,ha t ht⟩
 | j::H,acc,ha,t,ht=>by
  unfold later at ht ⊢;split at ht
  ·rename_i hw;rw[if_pos hw];obtain ⟨h1,a⟩:=Hn H (j::acc) (λt ht=>by
    rcases List.mem_cons.1 ht with rfl|ht
    ·exact Lh (λk hk=>by
      simp only[iB,tn,cZ] at hk ⊢;exact hk.imp id .inr) hw
    exact Lh (λk hk=>by
     simp only[iB,tn,cZ] at hk ⊢;exact hk.imp id .inr) (ha t ht)) t ht
   refine⟨?_,a⟩;rcases h1 with h1|h1
   ·rcases List.mem_cons.1 h1 with rfl|h1
    ·exact .inr ae
    exact .inl h1
   exact .inr (aX _ h1)
  rename_i hw;rw[if_neg hw];obtain ⟨h1,a⟩:=Hn H acc ha t ht;exact⟨h1.imp id (aX _),a⟩
def Yz(ops:Array Oper)(ld:Bool)(i:Nat)(H:List Nat): Bool :=
 !isF ops i && QV ops i H && H.all λj=>(later ops i [] H).contains j ||
  (match ops[i]?,ops[j]? with|some oi,some oj=>oi.apart ops oj && (!ld || early oj)|_,_=>false)
def TX(ops:Array Oper)(i:Nat)(H:List Nat)(ts:List Nat): Bool :=
  !isF ops i && QV ops i H && (H.all λj=>waits ops j (· == i) ||
    (match ops[i]?,ops[j]? with
     | some oi,some oj=>oi.apart ops oj && (early oj || (match oj.op with | .store _ (.tmp t) _=>ts.contains t || (H.any λk=>isF ops k && ((ops[k]?).bind (·.dst) == some t) && waits ops j (· == k))|_=>false))
     | _,_=>false)) &&
  ts.all λt=>ops.all λo => !(o.dst == some t)
def Vo(ops:Array Oper)(i:Nat)(H:List Nat): Bool :=
 !isF ops i && QV ops i H && H.all λj=>isF ops j || waits ops j λk=>k == i || (H.contains k && !isF ops k)
def Nc(ops:Array Oper)(i:Nat)(H:List Nat): Bool :=
 isF ops i && H.all λj=>isF ops j || waits ops j λk=>k == i || (H.contains k && !isF ops k)
def NE(ops:Array Oper): Bool :=
 (List.range ops.size).all λj=>(List.range ops.size).all λk=>j == k ||
  (match (ops[j]?).bind (·.dst),(ops[k]?).bind (·.dst) with|some x,some y => !(x == y)|_,_=>true)
theorem Bh(h:NE ops=true)(hj:ops[j]?=some o)(hk:ops[t]?=some X)(hd:o.dst=some s)(he:X.dst=some s): j=t:=by
 unfold NE at h;have h1:=List.all_eq_true.1 h j (List.mem_range.2 (Array.getElem?_eq_some_iff.1 hj).1);have a:=List.all_eq_true.1 h1 t (List.mem_range.2 (Array.getElem?_eq_some_iff.1 hk).1);simp[hj,hk,hd,he] at a;exact a
theorem Lg(d:waits ops j h=true)(hr:j∈Region.ready .any ops N): ∃k,h k=true/\N.getD k false=true:=by
 obtain ⟨_,o,ho,b⟩:=mem_ready.1 hr;unfold waits at d;simp only[ho] at d;obtain ⟨e,he,c⟩:=Array.any_eq_true'.1 d;simp only[cz] at c;exact⟨e.on,c.2,b e he c.1⟩
theorem BN(ho:ops[j]?=some o)(h:QV ops j O=true)(hl:∀k,k<ops.size->k≠j->k∉O->N.getD k false=true)(c:N.getD j true=false)(b:∀e∈o.after,e.on<ops.size): j∈Region.ready .any ops N:=by
 refine mem_ready.2 ⟨c,o,ho,λe he d=>?_⟩;unfold QV waits at h;simp only[ho,oV] at h;have h1:¬((e.on == j || O.contains e.on)=true):=λhc=>by
  have:(o.after.any λe=>Region.binds .any e && (e.on == j || O.contains e.on))=true :=
   Array.any_eq_true'.2 ⟨e,he,by simp only[d,vg];exact hc⟩
  rw[this] at h;cases h
 simp only[iB,beq_iff_eq,tn,not_or] at h1;exact hl e.on (b e he) h1.1 h1.2
def pI(ops:Array Oper): Bool:=ops.all λo=>o.after.all λe=>decide (e.on<ops.size)
theorem Vp:∀ {l l':List Nat},l.Nodup->l ⊆ l'->l.length<=l'.length
 | [],_,_,_=>cX _
 | x::l,l',c,hs=>by
  have hx:x∈l':=hs ae;have a:=List.nodup_cons.1 c;have:=Vp (l:=l) (l':=l'.erase x) a.2 (λy b=>(List.mem_erase_of_ne (λe=>a.1 (by rw[<-e];exact b))).2 (hs (aX _ b)));rw[ve hx] at this;have d:=te hx;simp;omega
def A5(ops:Array Oper)(H:List Nat): Array Bool:=((List.range ops.size).map λk => !H.contains k).toArray
def S1(ops:Array Oper)(i j:Nat)(H:List Nat): Bool :=
 !isF ops i && !isF ops j && H.contains j && QV ops i H && QV ops j (i::H.erase j) && H.all λk=>k == j || isF ops k || waits ops k λm=>m == i || m == j || (H.contains m && !isF ops m)
def AA(P:Program)(ops:Array Oper)(n:Nat)(S:Nat->Prop)(w0:World)(i:Nat)(o:Oper)(C:List (Nat×Value)->List (Nat×Obj)->List Zs->Prop)(L:List (Nat×Value))(σ:List (Nat×Obj))(Φ:List Zs): Prop :=
 ∀a w σx,St n S w0 L (σx++σ) Φ a w->wpOp P ops (λ_ _ _=>False) i (λa' w'=>((early o=true->Ext w w')/\P4 o a w w') /\ ∃v σ' Φ',a'=a.put o.dst v/\St n S w0 (po o.dst v L) (σx++σ') Φ' a' w' /\
  C (po o.dst v L) σ' Φ') a w
abbrev HeadC(P:Program)(ops:Array Oper)(n:Nat)(S:Nat->Prop)(w0:World)(Kf:Exit->Act->World->Prop)(i:Nat)(H:List Nat)(C:List (Nat×Value)->List (Nat×Obj)->List Zs->Prop)(D:Nat->List (Nat×Value)->List (Nat×Obj)->List Zs->Prop)(L:List (Nat×Value))(σ:List (Nat×Obj))(Φ:List Zs): Prop :=
 (∃o d v,∃ld:Bool,ops[i]?=some o/\o.dst=some d/\d<n/\Yz ops ld i H=true /\
   (∀a w σx,St n S w0 L (σx++σ) Φ a w->YieldsIf P ops (λw'=>ld=true->Ext w w') o v a)/\C ((d,v)::L) σ Φ) \/
  (∃o,ops[i]?=some o/\Vo ops i H=true /\
   (∀a w σx,St n S w0 L (σx++σ) Φ a w->wpOp P ops (λ_ _ _=>False) i (λa' w'=>((early o=true->Ext w w')/\P4 o a w w') /\ ∃v σ' Φ',a'=a.put o.dst v/\St n S w0 (po o.dst v L) (σx++σ') Φ' a' w' /\
    C (po o.dst v L) σ' Φ') a w)) \/
  (∃d T z ty pos after,ops[i]?=some ⟨some d,.alloc T,ty,pos,after,none⟩/\Nc ops i H=true/\(∀w,(zeroValue T).run P w=.ok z w)/\d<n /\
   ∀b,C ((d,.pointer (some ⟨b,0,none⟩))::L) ((b,.cells z.cells T (0,0))::σ) Φ) \/
  (∃o d v b,∃ts:List Nat,ops[i]?=some o/\o.dst=some d/\d<n/\TX ops i H ts=true /\
   (∀a w σx,St n S w0 L (σx++σ) Φ a w -> ∃o0,w.heap[b]?=some o0/\YieldsIf P ops (λw'=>w'.heap[b]?=some o0) o v a/\(∀q∈σx,q.1≠b) /\ ∀t∈ts,∃p:Addr,look L t=some (.pointer (some p))/\p.block≠b) /\
   C ((d,v)::L) σ Φ) \/
  (((i::H).all λj => !isF ops j)=true /\ ∀a w,St n S w0 L σ Φ a w->wpX P ops Kf (H.length+1) (A5 ops (i::H)) a w) \/
  (∃j oi oj,ops[i]?=some oi/\ops[j]?=some oj/\S1 ops i j H=true /\
   AA P ops n S w0 i oi (λL σ Φ=>C L σ Φ) L σ Φ/\AA P ops n S w0 j oj (λL σ Φ=>D j L σ Φ) L σ Φ)
def eK(P:Program)(ops:Array Oper)(n:Nat)(S:Nat->Prop)(w0:World)(Kf:Exit->Act->World->Prop): Nat->List Nat->List (Nat×Value)->List (Nat×Obj)->List Zs->Prop
 | _+1,[]=>λL σ Φ => ∀a w,St n S w0 L σ Φ a w->Kf .normal a w
 | 0,_=>λL σ Φ => ∀a w,St n S w0 L σ Φ a w->Kf .normal a w
 | k+1,i::H=>λL σ Φ=>HeadC P ops n S w0 Kf i H (eK P ops n S w0 Kf k H) (λj=>eK P ops n S w0 Kf k (i::H.erase j)) L σ Φ
def Head(P:Program)(ops:Array Oper)(n:Nat)(S:Nat->Prop)(w0:World)(Kf:Exit->Act->World->Prop)(H:List Nat)(L:List (Nat×Value))(σ:List (Nat×Obj))(Φ:List Zs): Prop:=eK P ops n S w0 Kf H.length H L σ Φ
theorem P5{P:Program}{ops:Array Oper}{S:Nat->Prop}{L:List (Nat×Value)}:
  Head P ops j S l Q (t::O) L G J=HeadC P ops j S l Q t O (λL G J=>Head P ops j S l Q O L G J) (λc=>eK P ops j S l Q O.length (t::O.erase c)) L G J:=rfl
structure Flo where
 i:Nat
 d:Nat
 b:Nat
 T:TypeId
 z:Value
def Flo.fits(P:Program)(ops:Array Oper)(g:Flo): Prop :=
 (∃ty pos after,ops[g.i]?=some ⟨some g.d,.alloc g.T,ty,pos,after,none⟩)/\isF ops g.i=true/\(∀w,(zeroValue g.T).run P w=.ok g.z w)
def Flo.own(g:Flo): Nat×Obj:=(g.b,.cells g.z.cells g.T (0,0))
variable{n:Nat}{S:Nat->Prop}{w0:World}{L:List (Nat×Value)}{σ:List (Nat×Obj)}{Φ:List Zs}{a:Act}{w:World}
theorem St.perm(h:St n S w0 L σ Φ a w)(c:G.Perm σ): St n S w0 L G Φ a w :=
 { h with
  own:=λp b=>h.own p (c.mem_iff.1 b)
  new:=λp b=>h.new p (c.mem_iff.1 b)
  nd:=(c.pairwise_iff (λ{x y} hxy=>vM hxy)).2 h.nd
  facts:=by
   obtain ⟨X,h1,d,f,e⟩:=h.facts;exact⟨X,h1,λp b=>d p (c.mem_iff.1 b),f,e⟩ }
theorem St.learn(h:St n S w0 L σ Φ a w)(hd:a.tmps.getD j undef=V): St n S w0 ((j,V)::L) σ Φ a w :=
 { h with
  val:=λt u ht=>by
   simp only[look] at ht;cases b:Nat.beq j t with
   | true=>rw[b] at ht;simp at ht;have:=tk b;subst this;rw[hd,ht]
   | false=>rw[b] at ht;exact h.val t u (by simpa using ht) }
theorem St.putFresh(h:St n S w0 L σ Φ a w)(hd:j<n)(v:Value)(hf:look L j=none): St n S w0 L σ Φ (a.put (some j) v) w :=
 (h.put hd v).sub λt u ht=>by
  simp only[look];cases b:Nat.beq j t with
  | true=>have:=tk b;subst this;rw[hf] at ht;cases ht
  | false=>simpa using ht
theorem Bu(h:j≠t): (a.put (some j) V).tmps.getD t undef=a.tmps.getD t undef:=by
 simp[Act.put,Array.getElem?_setIfInBounds_ne h]
theorem FY(h:j<a.tmps.size): (a.put (some j) V).tmps.getD j undef=V:=by
 simp[Act.put,h]
theorem Wr(h:St n S w0 L σ Φ a w)(hj:ops[j]?=some ⟨some t,.alloc A,m,p,g,none⟩)(hz:∀w,(zeroValue A).run P w=.ok V w)(hd:t<n)(hf:look L t=none)(k:∀b w',w.heap.size<=b->Ext w w'->St n S w0 L ((b,.cells V.cells A (0,0))::σ) Φ (a.put (some t) (.pointer (some ⟨b,0,none⟩))) w'->K (a.put (some t) (.pointer (some ⟨b,0,none⟩))) w'):
  wpOp P ops Q j K a w:=by
 unfold wpOp;simp only[hj];rw[if_pos (by rfl)];refine .inl (Qg (v:=.pointer (some ⟨w.heap.size,0,none⟩)) (w':=w.alloc (.cells V.cells A (0,0))) ?_ (k _ _ (aZ _) ((Below.refl _ _).alloc (aZ _) _) ((h.alloc _).putFresh hd _ hf)));simp only[execOp,Instr.alloc,bl,hz,Result.andThen];rfl
theorem M7(h:isF ops j=true): ∃d T ty pos after,ops[j]?=some ⟨some d,.alloc T,ty,pos,after,none⟩:=by
 unfold isF at h;split at h
 ·rename_i d T ty pos after ho;exact⟨d,T,ty,pos,after,ho⟩
 cases h
def AB(P:Program)(ops:Array Oper)(n:Nat)(H:List Nat)(L:List (Nat×Value)): Prop :=
 ∀j∈H,∀d T ty pos after,ops[j]?=some ⟨some d,.alloc T,ty,pos,after,none⟩->isF ops j=true->look L d=none/\d<n /\ ∃z,∀w,(zeroValue T).run P w=.ok z w
theorem OX(q:NE ops=true)(ih:∀(t:Nat) (H:List Nat) (L:List (Nat×Value)) (σ:List (Nat×Obj)) (Φ:List Zs) (G:List Flo) (N:Array Bool) (a:Act) (w:World),
  t+H.length<=j->Head P ops n S w0 Q H L σ Φ->St n S w0 L (G.map Flo.own++σ) Φ a w ->
  (∀g∈G,a.tmps.getD g.d undef=.pointer (some ⟨g.b,0,none⟩))->(∀g∈G,g.fits P ops/\g.i∈H)->(G.map (·.i)).Nodup->H.Nodup->(∀i∈H,i<ops.size) ->
  AB P ops n H L ->
  N.size=ops.size->(∀i,i<ops.size->(N.getD i true=true↔(i∉H\/i∈G.map (·.i))))->t+G.length=H.length ->
  wpX P ops Q t N a w){i:Nat}{G:List Flo}(hm:t+1+(i::O).length<=j+1)(l:St n S w0 L (G.map Flo.own++σ) Φ a w)(hgt:∀g∈G,a.tmps.getD g.d undef=.pointer (some ⟨g.b,0,none⟩))(s:∀g∈G,g.fits P ops/\g.i∈i::O)(U:(G.map (·.i)).Nodup)(hn:(i::O).Nodup)(J:∀k∈i::O,k<ops.size)(R:AB P ops n (i::O) L)(A:N.size=ops.size)(hl:∀k,k<ops.size->(N.getD k true=true↔(k∉i::O\/k∈G.map (·.i))))(W:t+1+G.length=(i::O).length)(ho:ops[i]?=some o)(z:isF ops i=false)(hw:AA P ops n S w0 i o (λL σ Φ=>Head P ops n S w0 Q O L σ Φ) L σ Φ):
  wpOp P ops (QN Q) i (λc w'=>(∀a1,ops[i]?=some a1->Left ops a1 a w c w')/\wpX P ops Q t (N.setIfInBounds i true) c w') a w:=by
 have u:=List.nodup_cons.1 hn;have F:i∉G.map (·.i):=λK=>by
  obtain ⟨g,x,rfl⟩:=List.mem_map.1 K;have:=(s g x).1.2.1;rw[z] at this;cases this
 have C:∀k i,i<ops.size->((N.setIfInBounds k true).getD i true=true↔(i=k\/N.getD i true=true)):=λk i hi=>by
  by_cases f:k=i
  ·subst f;simp[A,hi]
  rw[getD_set_ne true f];simp[vM f]
 refine wpOp_mono (λc w' h=>?_) (Ld (λ_ _ _ h=>h.elim) (hw a w _ l));obtain ⟨hex,v,σ',Φ',rfl,E,Y⟩:=h;refine⟨λo' B=>by
  rw[ho] at B;cases B
  exact⟨hex.1,λT a6 y p he _ hp=>hex.2 T a6 y p he hp,λa6 ht=>BP ho ht,λa6 hd hf=>by have h1:=hf i o ho hd;rw[z] at h1;cases h1⟩,?_⟩
 have r:∀g∈G,o.dst≠some g.d:=λg x he=>by
  obtain ⟨⟨⟨X,pos',I,V⟩,_,_⟩,_⟩:=s g x;have:=Bh q ho V he rfl;exact F (this ▸ List.mem_map.2 ⟨g,x,rfl⟩)
 refine ih t O _ σ' Φ' G _ _ w' (by simp at hm ⊢;omega) Y E ?_ ?_ U u.2 (λk hk=>J k (aX _ hk)) ?_ (by simp[A]) ?_ (by simp at W ⊢;omega)
 ·intro g x;have r:=r g x;cases hd:o.dst with
  | none=>exact hgt g x
  | some e=>rw[Bu (λhe=>r (by rw[hd,he]))];exact hgt g x
 ·intro g x;obtain ⟨h1,M⟩:=s g x;refine⟨h1,?_⟩;rcases List.mem_cons.1 M with h|h
  ·exact absurd (h ▸ List.mem_map.2 ⟨g,x,rfl⟩) F
  exact h
 ·intro k hk d T ty pos after D m;obtain ⟨h1,M,h3⟩:=R k (aX _ hk) d T ty pos after D m;refine⟨?_,M,h3⟩;cases hd:o.dst with
  | none=>exact h1
  | some e =>
   simp only[po,look];cases Z:Nat.beq e d with
   | false=>simpa using h1
   | true =>
    exfalso;have:=tk Z;subst this;have:=Bh q ho D hd rfl;exact u.1 (this ▸ hk)
 intro k hk;rw[C i k hk,hl k hk];simp only[cZ (a:=k) (b:=i),not_or];constructor
 ·rintro(rfl|⟨_,h⟩|h)
  ·exact .inl u.1
  ·exact .inl h
  exact .inr h
 rintro(h|h)
 ·by_cases f:k=i
  ·exact .inl f
  exact .inr (.inl ⟨f,h⟩)
 exact .inr (.inr h)
theorem LS(h8:Region.noSelect ops=true)(R:NE ops=true)(k7:pI ops=true): ∀(m fuel:Nat) (H:List Nat) (L:List (Nat×Value)) (σ:List (Nat×Obj)) (Φ:List Zs) (G:List Flo) (c:Array Bool) (a:Act) (w:World),
  fuel+H.length<=m->Head P ops n S w0 Q H L σ Φ->St n S w0 L (G.map Flo.own++σ) Φ a w ->
  (∀g∈G,a.tmps.getD g.d undef=.pointer (some ⟨g.b,0,none⟩))->(∀g∈G,g.fits P ops/\g.i∈H)->(G.map (·.i)).Nodup->H.Nodup->(∀i∈H,i<ops.size) ->
  AB P ops n H L ->
  c.size=ops.size->(∀i,i<ops.size->(c.getD i true=true↔(i∉H\/i∈G.map (·.i))))->fuel+G.length=H.length ->
  wpX P ops Q fuel c a w:=by
 intro m;induction m with
 | zero =>
  intro fuel H L σ Φ G c a w hm hH u hgt s O hn B a7 F hl E;have:H=[]:=dn (by omega);subst this;have:fuel=0:=by simp at E;omega
  subst this;have hG:G=[]:=by simpa using E
  subst hG;refine⟨?_,hH a w u⟩;apply List.eq_nil_iff_forall_not_mem.2;intro i hi;obtain ⟨h0,o,ho,_⟩:=mem_ready.1 hi;have:=(hl i (Array.getElem?_eq_some_iff.1 ho).1).2 (.inl (by simp));rw[h0] at this;cases this
 | succ m ih =>
  intro fuel H L σ Φ G c a w hm hH u hgt s O hn B a7 F hl E;cases H with
  | nil =>
   have:fuel=0:=by simp at E;omega
   subst this;exact ih 0 [] L σ Φ G c a w (by simp) hH u hgt s O hn B a7 F hl E
  | cons i H =>
   have b0:=List.nodup_cons.1 hn;have n5:=B i ae;have b2:∀k,k<ops.size->c.getD k false=c.getD k true:=λk hk=>by simp[F,hk]
   -- c behind an operation
   have e6:∀k,(c.setIfInBounds k true).size=ops.size:=λk=>by simp[F]
   have h9:∀k i,i<ops.size->((c.setIfInBounds k true).getD i true=true↔(i=k\/c.getD i true=true)):=λk i hi=>by
    by_cases D:k=i
    ·subst D;simp[F,hi]
    rw[getD_set_ne true D];simp[vM D]
   -- a local that comes early
   have J:∀j f,fuel=f+1->j∈i::H->j∉G.map (·.i)->isF ops j=true -> ∀(h2:Exit->Act->World->Prop),
     wpOp P ops h2 j (λa' w'=>(∀o,ops[j]?=some o->Left ops o a w a' w')/\wpX P ops Q f (c.setIfInBounds j true) a' w') a w:=by
    intro j f o7 W e9 b8 h2;obtain ⟨d,T,ty,pos,after,ho⟩:=M7 b8;obtain ⟨q9,Y,z,hz⟩:=a7 j W d T ty pos after ho b8;refine Wr u ho hz Y q9 λb w' p7 l9 c6=>⟨λo' a8=>by
     rw[ho] at a8;cases a8
     exact⟨λ_=>l9,(λ_ _ _ _ he=>by cases he),λt ht=>BP (o:=⟨some d,.alloc T,ty,pos,after,none⟩) ho ht,λt p9 _=>by
      cases p9
      exact⟨b,FY (by rw[u.size];exact Y),p7⟩⟩,?_⟩
    refine ih f (i::H) L σ Φ (⟨j,d,b,T,z⟩::G) (c.setIfInBounds j true) _ w' (by simp at hm ⊢;omega) hH c6 ?_ ?_ ?_ hn B a7 (e6 j) ?_ (by simp at E ⊢;omega)
    ·intro g q;rcases List.mem_cons.1 q with rfl|q
     ·exact FY (by rw[u.size];exact Y)
     rw[Bu]
     ·exact hgt g q
     intro he;obtain ⟨⟨⟨e8,pos',K,N⟩,_,_⟩,_⟩:=s g q;have:=Bh R ho N rfl (by simp only[he]);exact e9 (this ▸ List.mem_map.2 ⟨g,q,rfl⟩)
    ·intro g q;rcases List.mem_cons.1 q with rfl|q
     ·exact⟨⟨⟨ty,pos,after,ho⟩,b8,hz⟩,W⟩
     exact s g q
    ·simp only[eb,uL];exact⟨e9,O⟩
    intro k hk;rw[h9 j k hk,hl k hk];simp only[eb,cZ];constructor
    ·rintro(rfl|h|h)
     ·exact .inr (.inl rfl)
     ·exact .inl (by simpa using h)
     exact .inr (.inr h)
    rintro(h|rfl|h)
    ·exact .inr (.inl (by simpa using h))
    ·exact .inl rfl
    exact .inr (.inr h)
   have A:∀k,k∈i::H->k∉G.map (·.i)->c.getD k true=false:=λk hk Z=>by
    cases hv:c.getD k true with
    | false=>rfl
    | true =>
     rcases (hl k (B k hk)).1 hv with h|h
     ·exact absurd hk h
     exact absurd h Z
   have b3:∀k,k<ops.size->k≠i->k∉H->c.getD k false=true:=λk hk D V=>by
    rw[b2 k hk];exact(hl k hk).2 (.inl (by simp[D,V]))
   have X:isF ops i=false->i∉G.map (·.i):=λhf C=>by
    obtain ⟨g,q,rfl⟩:=List.mem_map.1 C;have:=(s g q).1.2.1;rw[hf] at this;cases this
   -- what may come up is number i,or a local
   have c5:(H.all λj=>isF ops j || waits ops j λk=>k == i || (H.contains k && !isF ops k))=true->i∉G.map (·.i) -> ∀j∈Region.ready .any ops c,j=i\/(j∈i::H/\j∉G.map (·.i)/\isF ops j=true):=by
    intro l8 l j hj;obtain ⟨h0,o,ho,_⟩:=mem_ready.1 hj;have c9:=(Array.getElem?_eq_some_iff.1 ho).1;have e0:¬(j∉i::H\/j∈G.map (·.i)):=λhc=>by rw[(hl j c9).2 hc] at h0;cases h0
    have W:j∈i::H:=tE λh=>e0 (.inl h);have e9:j∉G.map (·.i):=λh=>e0 (.inr h);by_cases b7:j=i
    ·exact .inl b7
    right;refine⟨W,e9,?_⟩;have o4:j∈H:=by rcases List.mem_cons.1 W with h|h;exact absurd h b7;exact h
    have h1:=List.all_eq_true.1 l8 j o4;rcases Bool.or_eq_true_iff.1 h1 with h1|h1
    ·exact h1
    obtain ⟨k,hk,h7⟩:=Lg h1 hj;exfalso;simp only[iB,beq_iff_eq,cz,tn,oV] at hk;rcases hk with rfl|⟨V,e4⟩
    ·rw[b2 k n5,A k ae l] at h7;cases h7
    have Z:k∉G.map (·.i):=λC=>by
     obtain ⟨g,q,rfl⟩:=List.mem_map.1 C;have:=(s g q).1.2.1;rw[e4] at this;cases this
    rw[b2 k (B k (aX _ V)),A k (aX _ V) Z] at h7;cases h7
   have b4:∀o,ops[i]?=some o -> ∀e∈o.after,e.on<ops.size:=λo ho e he=>by
    unfold pI at k7;have h1:=Array.all_eq_true'.1 k7 o (vu ho);have r:=Array.all_eq_true'.1 h1 e he;simpa using r
   -- the state of 'listed' behind number i
   have j4:i∉G.map (·.i) -> ∀k,k<ops.size->((c.setIfInBounds i true).getD k true=true↔(k∉H\/k∈G.map (·.i))):=λl k hk=>by
    rw[h9 i k hk,hl k hk];simp only[cZ,not_or];constructor
    ·rintro(rfl|⟨_,h⟩|h)
     ·exact .inl b0.1
     ·exact .inl h
     exact .inr h
    rintro(h|h)
    ·by_cases D:k=i
     ·exact .inl D
     exact .inr (.inl ⟨D,h⟩)
    exact .inr (.inr h)
   have b1:i∉G.map (·.i) -> ∀g∈G,g.fits P ops/\g.i∈H:=λl g q=>by
    obtain ⟨h1,r⟩:=s g q;refine⟨h1,?_⟩;rcases List.mem_cons.1 r with h|h
    ·exact absurd (h ▸ List.mem_map.2 ⟨g,q,rfl⟩) l
    exact h
   have c4:∀g∈G,∀o,ops[i]?=some o->i∉G.map (·.i)->o.dst≠some g.d:=λg q o ho l he=>by
    obtain ⟨⟨⟨e8,pos',K,N⟩,_,_⟩,_⟩:=s g q;have:=Bh R ho N he rfl;exact l (this ▸ List.mem_map.2 ⟨g,q,rfl⟩)
   have b5:∀o v,ops[i]?=some o->AB P ops n H (po o.dst v L):=λo v ho j hj d T ty pos after I b8=>by
    obtain ⟨h1,r,h3⟩:=a7 j (aX _ hj) d T ty pos after I b8;refine⟨?_,r,h3⟩;cases hd:o.dst with
    | none=>exact h1
    | some e =>
     simp only[po,look];cases U:Nat.beq e d with
     | false=>simpa using h1
     | true =>
      exfalso;have:=tk U;subst this;have:=Bh R ho I hd rfl;exact b0.1 (this ▸ hj)
   have M:i∉G.map (·.i) -> ∃f,fuel=f+1:=λl=>by
    have hle:(i::G.map (·.i)).length<=(i::H).length:=by
     have n9:G.map (·.i) ⊆ H:=λk hk=>by
      obtain ⟨g,q,rfl⟩:=List.mem_map.1 hk;exact(b1 l g q).2
     have:=Vp O n9;simpa using this
    simp at hle E;exact⟨fuel-1,by omega⟩
   rw[P5] at hH;rcases hH with ⟨o,d,v,ld,ho,hd,Y,hq,hy,hH⟩|⟨o,ho,l2,hw⟩|⟨d,T,z,ty,pos,after,ho,e5,hz,Y,hH⟩|⟨o,d,v,b,ts,ho,hd,Y,hq,hy,hH⟩|⟨p5,hx⟩|j3
   ·-- a quiet operation
    simp only[Yz,cz,oV] at hq;obtain ⟨⟨a1,c8⟩,c7⟩:=hq;have l:=X a1;obtain ⟨f,rfl⟩:=M l;have hr:i∈Region.ready .any ops c:=BN ho c8 b3 (A i ae l) (b4 o ho);have l3:=Hn (ops:=ops) (i:=i) H [] (λ_ h=>nomatch h);refine XH ho (w7 h8) a1 ld (later ops i [] H) f c a w ?_ ?_ hr (hy a w _ u) ?_;rotate_left
    ·intro t ht;obtain ⟨h1,r⟩:=l3 t ht;have l5:t∈H:=by rcases h1 with h1|h1;cases h1;exact h1
     have h3:=r;unfold waits at h3;split at h3
     ·rename_i ot j9;obtain ⟨e,he,U⟩:=Array.any_eq_true'.1 h3;simp only[cz,iB,beq_iff_eq,tn] at U;have q8:t∉G.map (·.i):=λC=>by
       obtain ⟨g,q,rfl⟩:=List.mem_map.1 C;have hF:=(s g q).1.2.1;obtain ⟨d',T',e8,pos',K,a8⟩:=M7 hF;unfold isF at hF;rw[a8] at hF j9;cases j9
       have h4:=Array.all_eq_true'.1 hF e he;simp[U.1] at h4
      exact⟨by rw[F];exact B t (aX _ l5),A t (aX _ l5) q8,ot,j9,e,he,U.1,U.2⟩
     cases h3
    rotate_left
    ·intro j oj I b7 e1 j0;have c9:=(Array.getElem?_eq_some_iff.1 I).1;have W:j∈H:=by
      have:¬(j∉i::H\/j∈G.map (·.i)):=λhc=>by rw[(hl j c9).2 hc] at e1;cases e1
      have h1:j∈i::H:=tE λh=>this (.inl h);rcases List.mem_cons.1 h1 with h|h
      ·exact absurd h b7
      exact h
     have h1:=List.all_eq_true.1 c7 j W;rcases Bool.or_eq_true_iff.1 h1 with h1|h1
     ·exact absurd (by simpa using h1) j0
     simp only[ho,I,cz,iB,oV] at h1;refine⟨h1.1,λr3=>?_⟩;rcases h1.2 with r|r
     ·rw[r3] at r;cases r
     exact r
    have:=u.put Y v;rw[hd];refine ih f H ((d,v)::L) σ Φ G _ _ w (by simp at hm;omega) hH this ?_ (b1 l) O b0.2 (λk hk=>B k (aX _ hk)) ?_ (e6 i) (j4 l) (by simp at E;omega)
    ·intro g q;rw[Bu (λhe=>c4 g q o ho l (by rw[hd,he]))];exact hgt g q
    have:=b5 o v ho;rw[hd] at this;exact this
   ·-- a loud one
    simp only[Vo,cz,oV] at l2;obtain ⟨⟨a1,c8⟩,c7⟩:=l2;have l:=X a1;obtain ⟨f,rfl⟩:=M l;have hr:i∈Region.ready .any ops c:=BN ho c8 b3 (A i ae l) (b4 o ho);refine⟨λh=>(by rw[h] at hr;cases hr),λj hj=>?_⟩;rcases c5 c7 l j hj with rfl|⟨h1,r,h3⟩
    ·refine wpOp_mono (λa' w' h=>?_) (Ld (λ_ _ _ h=>h.elim) (hw a w _ u));obtain ⟨hex,v,σ',Φ',rfl,c6,r4⟩:=h;refine⟨λo' a8=>by
      rw[ho] at a8;cases a8
      exact⟨hex.1,λT t y p he _ hp=>hex.2 T t y p he hp,λt ht=>BP ho ht,λt hd hf=>by have h1:=hf j o ho hd;rw[a1] at h1;cases h1⟩,?_⟩
     refine ih f H _ σ' Φ' G _ _ w' (by simp at hm;omega) r4 c6 ?_ (b1 l) O b0.2 (λk hk=>B k (aX _ hk)) (b5 o v ho) (e6 j) (j4 l) (by simp at E;omega);intro g q;have o8:=c4 g q o ho l;cases hd:o.dst with
     | none=>exact hgt g q
     | some e=>rw[Bu (λhe=>o8 (by rw[hd,he]))];exact hgt g q
    exact J j f rfl h1 r h3 _
   ·-- a local's turn
    simp only[Nc,cz] at e5;by_cases l:i∈G.map (·.i)
    ·obtain ⟨g,q,j2⟩:=List.mem_map.1 l;obtain ⟨G1,G2,rfl⟩:=List.append_of_mem q;obtain ⟨⟨⟨e8,pos',K,N⟩,_,r2⟩,_⟩:=s g q;rw[j2,ho] at N;simp only[vb,wN,Op.alloc.injEq] at N;obtain ⟨p3,hT,_,_,_,_⟩:=N;have p8:z=g.z:=by
      have h1:=hz w;rw[hT,r2 w] at h1;simp at h1;exact h1.symm
     subst p8;have U:=hgt g q;rw[<-p3] at U;have o5:St n S w0 ((d,.pointer (some ⟨g.b,0,none⟩))::L) ((G1++G2).map Flo.own++(g.b,.cells g.z.cells T (0,0))::σ) Φ a w:=by
      refine(u.perm ?_).learn U;simp only[dv,eb,cv,gH];refine s8 _ ?_;have:g.own=(g.b,Obj.cells g.z.cells T (0,0)):=by simp[Flo.own,hT]
      rw[this];exact uA
     have i6:∀g'∈G1++G2,g'∈G1++g::G2:=λg' h'=>by
      rcases List.mem_append.1 h' with h'|h'
      ·exact List.mem_append.2 (.inl h')
      exact List.mem_append.2 (.inr (aX _ h'))
     have b9:(List.map (λx=>x.i) (G1++g::G2)).Perm (g.i::List.map (λx=>x.i) (G1++G2)):=by
      simp only[dv,eb];exact uA
     have i1:=List.nodup_cons.1 (b9.nodup_iff.1 O);refine ih fuel H _ _ Φ (G1++G2) c a w (by simp at hm;omega) (hH g.b) o5 (λg' h'=>hgt g' (i6 g' h')) ?_ i1.2 b0.2 (λk hk=>B k (aX _ hk)) ?_ F ?_ (by simp at E ⊢;omega)
     ·intro g' h';obtain ⟨h1,r⟩:=s g' (i6 g' h');refine⟨h1,?_⟩;rcases List.mem_cons.1 r with h|h
      ·exact absurd (List.mem_map.2 ⟨g',h',by rw[h,j2]⟩) i1.1
      exact h
     ·have:=b5 _ (.pointer (some ⟨g.b,0,none⟩)) ho;exact this
     intro k hk;rw[hl k hk,b9.mem_iff,cZ,cZ,j2];constructor
     ·rintro(h|rfl|h)
      ·exact .inl (λhc=>h (.inr hc))
      ·exact .inl b0.1
      exact .inr h
     rintro(h|h)
     ·by_cases D:k=i
      ·exact .inr (.inl D)
      exact .inl (λhc=>hc.elim D h)
     exact .inr (.inr h)
    obtain ⟨f,rfl⟩:=M l;have i7:i∈Region.ready .any ops c:=by
     refine mem_ready.2 ⟨A i ae l,_,ho,λe he U=>?_⟩;have h1:=e5.1;unfold isF at h1;simp only[ho] at h1;have r:=Array.all_eq_true'.1 h1 e he;rw[U] at r;cases r
    refine⟨λh=>(by rw[h] at i7;cases i7),λj hj=>?_⟩;rcases c5 e5.2 l j hj with rfl|⟨h1,r,h3⟩
    ·exact J j f rfl ae l e5.1 _
    exact J j f rfl h1 r h3 _
   ·-- a load beside stores to other blocks
    simp only[TX,cz,oV] at hq;obtain ⟨⟨⟨a1,c8⟩,c7⟩,p4⟩:=hq;have l:=X a1;obtain ⟨f,rfl⟩:=M l;have hr:i∈Region.ready .any ops c:=BN ho c8 b3 (A i ae l) (b4 o ho);obtain ⟨o0,p6,p0,r5,q6⟩:=hy a w _ u;refine gm ho (w7 h8) a1 f c a w p6 ?_ hr p0 ?_
    ·intro j oj I b7 e1 j0;have c9:=(Array.getElem?_eq_some_iff.1 I).1;have W:j∈H:=by
      have:¬(j∉i::H\/j∈G.map (·.i)):=λhc=>by rw[(hl j c9).2 hc] at e1;cases e1
      have h1:j∈i::H:=tE λh=>this (.inl h);rcases List.mem_cons.1 h1 with h|h
      ·exact absurd h b7
      exact h
     have h1:=List.all_eq_true.1 c7 j W;rcases Bool.or_eq_true_iff.1 h1 with h1|h1
     ·exfalso;unfold waits at h1;simp only[I] at h1;obtain ⟨e,he,U⟩:=Array.any_eq_true'.1 h1;simp only[cz,beq_iff_eq] at U;exact j0 e he U.1 U.2
     simp only[ho,I,cz,iB] at h1;refine⟨h1.1,?_⟩;rcases h1.2 with r|r
     ·exact .inl r
     right;split at r
     ·rename_i T t y o3;rcases Bool.or_eq_true_iff.1 r with r|r
      ·have o1:t∈ts:=by simpa using r
       obtain ⟨p,q7,q3⟩:=q6 t o1;refine⟨T,t,y,o3,λk ok hk he=>?_,.inl ⟨p,u.val t _ q7,q3⟩⟩;have h5:=List.all_eq_true.1 p4 t o1;have h6:=Array.all_eq_true'.1 h5 ok (vu hk);rw[he] at h6;simp at h6
      obtain ⟨k,V,hk⟩:=List.any_eq_true.1 r;simp only[cz,beq_iff_eq] at hk;obtain ⟨⟨e4,j5⟩,j6⟩:=hk;obtain ⟨d',T',e8,pos',K,a6⟩:=M7 e4;rw[a6] at j5;simp only[vh,vb] at j5;subst j5;have j8:=(Array.getElem?_eq_some_iff.1 a6).1;refine⟨T,d',y,o3,λk2 s3 l4 he=>?_,?_⟩
      ·have:=Bh R l4 a6 he rfl;rw[this];exact e4
      by_cases Z:k∈G.map (·.i)
      ·obtain ⟨g,q,rfl⟩:=List.mem_map.1 Z;obtain ⟨⟨⟨r9,r7,o6,N⟩,_,_⟩,_⟩:=s g q;rw[a6] at N;simp only[vb,wN] at N;have k6:=hgt g q;rw[<-N.1] at k6;exact .inl ⟨_,k6,r5 g.own (List.mem_map.2 ⟨g,q,rfl⟩)⟩
      right;unfold waits at j6;simp only[I] at j6;obtain ⟨e,he,U⟩:=Array.any_eq_true'.1 j6;simp only[cz,beq_iff_eq] at U;exact⟨k,_,a6,rfl,by rw[F];exact j8,A k (aX _ V) Z,e,he,U.1,U.2⟩
     cases r
    have:=u.put Y v;rw[hd];refine ih f H ((d,v)::L) σ Φ G _ _ w (by simp at hm;omega) hH this ?_ (b1 l) O b0.2 (λk hk=>B k (aX _ hk)) ?_ (e6 i) (j4 l) (by simp at E;omega)
    ·intro g q;rw[Bu (λhe=>c4 g q o ho l (by rw[hd,he]))];exact hgt g q
    have:=b5 o v ho;rw[hd] at this;exact this
   ·-- all orders,one by one
    have hG:G=[]:=by
     cases G with
     | nil=>rfl
     | cons g G =>
      obtain ⟨⟨_,hF,_⟩,C⟩:=s g ae;have:=List.all_eq_true.1 p5 g.i C;rw[hF] at this;cases this
    subst hG;have k8:fuel=H.length+1:=by simpa using E
    have j7:c=A5 ops (i::H):=by
     apply wE
     ·rw[F];simp[A5]
     intro k o2 l4;have hk:k<ops.size:=by rw[<-F];exact o2
     have h1:=hl k hk;simp only[la,cf,or_false] at h1;have r:c.getD k true=c[k]:=by simp[o2]
     rw[r] at h1;have h3:(A5 ops (i::H))[k] = !(i::H).contains k:=by simp[A5]
     rw[h3];by_cases C:k∈i::H
     ·have h4:c[k]=false:=by
       cases hv:c[k] with
       | false=>rfl
       | true=>exact absurd C (h1.1 hv)
      rw[h4,List.contains_iff_mem.2 C];rfl
     rw[h1.2 C];have:(i::H).contains k=false:=by
      cases hv:(i::H).contains k with
      | false=>rfl
      | true=>exact absurd (List.contains_iff_mem.1 hv) C
     rw[this];rfl
    rw[k8,j7];exact hx a w u
   ·-- two loud ones,in either order
    obtain ⟨j,oi,oj,ho,I,n3,p2,o9⟩:=j3;simp only[S1,cz,oV,tn] at n3;obtain ⟨⟨⟨⟨⟨j1,l6⟩,e3⟩,q4⟩,r8⟩,r6⟩:=n3;have l:=X j1;obtain ⟨f,rfl⟩:=M l;have hr:i∈Region.ready .any ops c:=BN ho q4 b3 (A i ae l) (b4 oi ho);have e2:(j::i::H.erase j).Perm (i::H):=(List.Perm.swap i j _).trans ((List.perm_cons_erase e3).symm.cons i);have hlen:H.length=(i::H.erase j).length:=by
     rw[dc,ve e3];have:=te e3;omega
    have e7:∀k,k∈j::i::H.erase j↔k∈i::H:=λk=>e2.mem_iff;refine⟨λh=>(by rw[h] at hr;cases hr),λk hk=>?_⟩;by_cases D:k=i
    ·subst D;exact OX R ih hm u hgt s O hn B a7 F hl E ho j1 p2
    by_cases k9:k=j
    ·subst k9;have n4:AA P ops n S w0 k oj (λL σ Φ=>Head P ops n S w0 Q (i::H.erase k) L σ Φ) L σ Φ:=by
      have r:=o9;rw[hlen] at r;exact r
     exact OX R ih (by rw[e2.length_eq];exact hm) u hgt (λg q=>⟨(s g q).1,(e7 _).2 (s g q).2⟩) O (e2.nodup_iff.2 hn) (λx hx=>B x ((e7 x).1 hx)) (λx hx=>a7 x ((e7 x).1 hx)) F (λx hx=>by rw[hl x hx,not_congr (e7 x)]) (by rw[e2.length_eq];exact E) I l6 n4
    obtain ⟨h0,ok,a6,_⟩:=mem_ready.1 hk;have j8:=(Array.getElem?_eq_some_iff.1 a6).1;have e0:¬(k∉i::H\/k∈G.map (·.i)):=λhc=>by rw[(hl k j8).2 hc] at h0;cases h0
    have V:k∈i::H:=tE λh=>e0 (.inl h);have Z:k∉G.map (·.i):=λh=>e0 (.inr h);have n2:k∈H:=by simpa [D] using V
    have c3:∀x,x∈i::H->isF ops x=false->c.getD x false=true->False:=λx l7 k5 b6=>by
     have p1:x∉G.map (·.i):=λC=>by
      obtain ⟨g,q,rfl⟩:=List.mem_map.1 C;have:=(s g q).1.2.1;rw[k5] at this;cases this
     rw[b2 x (B x l7),A x l7 p1] at b6;cases b6
    have h1:=List.all_eq_true.1 r6 k n2;simp only[iB,beq_iff_eq] at h1;rcases h1 with (h1|h1)|h1
    ·exact absurd h1 k9
    ·exact J k f rfl V Z h1 _
    exfalso;obtain ⟨x,hx,b6⟩:=Lg h1 hk;simp only[iB,beq_iff_eq,cz,tn,oV] at hx;rcases hx with (rfl|rfl)|⟨q5,k5⟩
    ·exact c3 x ae j1 b6
    ·exact c3 x (aX _ e3) l6 b6
    exact c3 x (aX _ q5) k5 b6
theorem gl{l:List Oper}(hm:P.follows .mixedOrders=true)(h:St n S w0 L σ Φ a w)(H:List Nat)(g:List (Nat×Value))(m:∀t v,look g t=some v->look L t=some v)(b:(Region.noSelect l.toArray && NE l.toArray && pI l.toArray && decide (H.Nodup) && decide (H.length=l.length) && H.all (λi=>decide (i<l.length)))=true)(z:AB P l.toArray n H g)(hH:Head P l.toArray n S w0 Q H g σ Φ): (Code.region j l.toArray true).wp P Q a w:=by
 simp only[cz,decide_eq_true_eq,uD] at b;obtain ⟨⟨⟨⟨⟨h1,q⟩,u⟩,p⟩,s⟩,o⟩:=b;refine Code.wp_mono (Q:=QN Q) (λe a w hq=>?_) (wp_region_any hm (HL _ _ _ _ ?_))
 ·cases e with
  | normal=>exact hq
  | panic x=>exact hq a.tmps
  | _=>exact hq.elim
 have c:∀i,i<l.length->i∈H:=by
  intro i f;have d:H ⊆ List.range l.length:=λk hk=>List.mem_range.2 (o k hk);refine tE λhc=>?_;have r:=Vp (l:=i::H) (l':=List.range l.length) (List.nodup_cons.2 ⟨hc,p⟩) (λk hk=>by
   rcases List.mem_cons.1 hk with rfl|hk
   ·exact List.mem_range.2 f
   exact d hk)
  simp at r;omega
 refine LS h1 q u (l.toArray.size+H.length) l.toArray.size H g σ Φ [] _ a { w with drawn:=w.drawn+1 } (aZ _) hH (h.sub m).drew (by simp) (by simp) (by simp) p (by simpa using o) z (by simp) (λi f=>?_) (by simp[s]);simp at f;simp[f,c i f]
variable{H:List Nat}{Kf:Exit->Act->World->Prop}
theorem Ph(ho:ops[j]?=some ⟨some t,q,ty,pos,aft,none⟩)(hq:Yz ops false j H=true)(b:Pure1 P L q V)(hd:t<n)(k:Head P ops n S w0 Kf H ((t,V)::L) σ Φ): Head P ops n S w0 Kf (j::H) L σ Φ :=
 .inl ⟨_,t,V,false,ho,rfl,hd,hq,λ_ _ _ a =>.inl ⟨rfl,λw' _=>b.run a w'⟩,k⟩
theorem Wl(ho:ops[j]?=some ⟨some t,q,ty,pos,aft,some (s,c)⟩)(hj:(ops[s]?).bind (·.dst)=some B)(ht:look L B=some (.bool c))(hq:Yz ops false j H=true)(b:Pure1 P L q V)(hd:t<n)(k:Head P ops n S w0 Kf H ((t,V)::L) σ Φ): Head P ops n S w0 Kf (j::H) L σ Φ :=
 .inl ⟨_,t,V,false,ho,rfl,hd,hq,λ_ _ _ a =>.inl ⟨by rw[AD a hj ht];simp,λw' _=>b.run a w'⟩,k⟩
theorem bT(ho:ops[j]?=some ⟨some t,q,A,p,g,some (s,c)⟩)(hj:(ops[s]?).bind (·.dst)=some B)(ht:look L B=some (.bool a1))(b:(a1 == c)=false)(hq:Yz ops false j H=true)(hd:t<n)(k:Head P ops n S w0 Kf H ((t,undef)::L) σ Φ): Head P ops n S w0 Kf (j::H) L σ Φ :=
 .inl ⟨_,t,undef,false,ho,rfl,hd,hq,λ_ _ _ a =>.inr ⟨by rw[AD a hj ht,b],rfl⟩,k⟩
theorem TO(h:St n S w0 L σ Φ a w)(hx:Fx.ev L C=some (.pointer (some ⟨j,t,none⟩)))(hm:(j,Obj.cells D m M)∈σ)(hagg:∀w,(isAgg A).run P w=.ok c w)(hs:∀w,(Go.sizeOf A).run P w=.ok s w)(hv:Zm c s D t=some V)(hw:Ext w l): (execOp a.eval (Oper.mk u (.load A C) ty pos aft a6)).run P l=.ok (.value V) l:=by
 have e:l.heap[j]?=some (Obj.cells D m M):=by rw[hw.block _ (h.own_lt hm)];exact h.own _ hm
 simp only[execOp,h.ev hx,bl,Xz e hagg hs hv];rfl
theorem bU(ho:ops[j]?=some ⟨some t,.load A C,ty,pos,aft,none⟩)(hq:Yz ops true j H=true)(hx:Fx.ev L C=some (.pointer (some ⟨s,B,none⟩)))(hm:(s,Obj.cells D m M)∈σ)(hagg:∀w,(isAgg A).run P w=.ok c w)(hs:∀w,(Go.sizeOf A).run P w=.ok R w)(hv:Zm c R D B=some V)(hd:t<n)(k:Head P ops n S w0 Kf H ((t,V)::L) σ Φ): Head P ops n S w0 Kf (j::H) L σ Φ :=
 .inl ⟨_,t,V,true,ho,rfl,hd,hq,λ_ _ _ a =>.inl ⟨rfl,λw' hw=>TO a hx (eg _ hm) hagg hs hv (hw rfl)⟩,k⟩
theorem Wm(ho:ops[j]?=some ⟨some t,.load A C,ty,pos,aft,some (s,c)⟩)(hj:(ops[s]?).bind (·.dst)=some B)(ht:look L B=some (.bool c))(hq:Yz ops true j H=true)(hx:Fx.ev L C=some (.pointer (some ⟨R,b2,none⟩)))(hm:(R,Obj.cells D m M)∈σ)(hagg:∀w,(isAgg A).run P w=.ok a1 w)(hs:∀w,(Go.sizeOf A).run P w=.ok b3 w)(hv:Zm a1 b3 D b2=some V)(hd:t<n)(k:Head P ops n S w0 Kf H ((t,V)::L) σ Φ): Head P ops n S w0 Kf (j::H) L σ Φ :=
 .inl ⟨_,t,V,true,ho,rfl,hd,hq,λ_ _ _ a =>.inl ⟨by rw[AD a hj ht];simp,λw' hw=>TO a hx (eg _ hm) hagg hs hv (hw rfl)⟩,k⟩
theorem Jd(g:List Nat)(ho:ops[j]?=some ⟨some t,.load A C,ty,pos,aft,none⟩)(hq:TX ops j H g=true)(hx:Fx.ev L C=some (.pointer (some ⟨s,B,none⟩)))(hm:(s,Obj.cells D m M)∈σ)(hagg:∀w,(isAgg A).run P w=.ok c w)(hs:∀w,(Go.sizeOf A).run P w=.ok R w)(hv:Zm c R D B=some V)(f:∀a w e,St n S w0 L (e++σ) Φ a w -> ∀o∈g,∃p:Addr,look L o=some (.pointer (some p))/\p.block≠s)(hd:t<n)(k:Head P ops n S w0 Kf H ((t,V)::L) σ Φ): Head P ops n S w0 Kf (j::H) L σ Φ :=
 .inr (.inr (.inr (.inl ⟨_,t,V,s,g,ho,rfl,hd,hq,λa w e l=>⟨Obj.cells D m M,l.own _ (eg _ hm),.inl ⟨rfl,λw' hw=>by
  simp only[execOp,l.ev hx,bl,Xz hw hagg hs hv];rfl⟩,λq h=>(List.pairwise_append.1 l.nd).2.2 q h _ hm,f a w e l⟩,k⟩)))
theorem Js(ho:ops[j]?=some ⟨u,q,ty,pos,aft,none⟩)(h:(Oper.mk u q ty pos aft none).wp P a w K Q): wpOp P ops Q j K a w:=by
 unfold wpOp;simp only[ho];rw[if_pos (by rfl)];exact .inl h
theorem Lf(b:St n S w0 L σ Φ a w)(ho:ops[j]?=some ⟨u,q,ty,pos,aft,some (t,c)⟩)(hj:(ops[t]?).bind (·.dst)=some s)(ht:look L s=some (.bool c))(h:(Oper.mk u q ty pos aft (some (t,c))).wp P a w K Q): wpOp P ops Q j K a w:=by
 unfold wpOp;simp only[ho];rw[if_pos (by rw[AD b hj ht];simp)];exact .inl h
theorem NT(h:St n S w0 L σ Φ a w)(ha:E.toList.map (Fx.ev L)=F.map some)(hc:∀E w,(callFunc r E).run P w=.ok (.enter r E) w)(hf:Ctr P r F J U)(b:∀R∈J,R∈Φ)(hd:j<n)(k:∀v Ψ w',U v Ψ->Ext w w'->St n S w0 ((j,v)::L) σ (Ψ++Φ) (a.put (some j) v) w'->K (a.put (some j) v) w'): (Oper.mk (some j) (.call ⟨.value (.func r),E,e⟩) ty pos aft a6).wp P a w K Q:=by
 obtain ⟨X,h1,o,s,i⟩:=h.facts;have hr:(execOp a.eval (Oper.mk (some j) (.call ⟨.value (.func r),E,e⟩) ty pos aft a6)).run P w=.ok (.enter r F.toArray) w:=by
  simp only[execOp,resolve,EN h ha,bl,Act.eval];simp[Deferred.ofValue,invoke,hc]
 simp only[Oper.wp,hr,Oper.upon];refine(hf X w s (λR hR=>i R (b R hR))).mono ?_;rintro q w' ⟨v,Ψ,rfl,m,l,p⟩;exact k v Ψ _ m l ((h.called l h1 o s i p).put hd v)
theorem Zu{vs:List Value}(ho:ops[j]?=some ⟨some t,.call ⟨.value (.func r),E,e⟩,A,p,g,none⟩)(hq:Vo ops j H=true)(ha:E.toList.map (Fx.ev L)=vs.map some)(hc:∀E w,(callFunc r E).run P w=.ok (.enter r E) w)(hf:Ctr P r vs J U)(b:∀R∈J,R∈Φ)(hd:t<n)(k:∀v Ψ,U v Ψ->Head P ops n S w0 Kf H ((t,v)::L) σ (Ψ++Φ)): Head P ops n S w0 Kf (j::H) L σ Φ :=
 .inr (.inl ⟨_,ho,hq,λ_ _ _ c=>Js ho (NT c ha hc hf b hd λv Ψ _ h hx a=>⟨⟨λ_=>hx,λ_ _ _ _ he=>by cases he⟩,v,σ,Ψ++Φ,rfl,a,k v Ψ h⟩)⟩)
theorem LU(ho:ops[j]?=some ⟨some t,.call ⟨.value (.func r),E,e⟩,A,p,g,some (s,c)⟩)(hj:(ops[s]?).bind (·.dst)=some B)(ht:look L B=some (.bool c))(hq:Vo ops j H=true)(ha:E.toList.map (Fx.ev L)=F.map some)(hc:∀E w,(callFunc r E).run P w=.ok (.enter r E) w)(hf:Ctr P r F J U)(l:∀R∈J,R∈Φ)(hd:t<n)(k:∀v Ψ,U v Ψ->Head P ops n S w0 Kf H ((t,v)::L) σ (Ψ++Φ)): Head P ops n S w0 Kf (j::H) L σ Φ :=
 .inr (.inl ⟨_,ho,hq,λ_ _ _ a=>Lf a ho hj ht (NT a ha hc hf l hd λv Ψ _ h hx b=>⟨⟨λ_=>hx,λ_ _ _ _ he=>by cases he⟩,v,σ,Ψ++Φ,rfl,b,k v Ψ h⟩)⟩)
theorem Upd.append(h:Upd G j Y b5 b4): ∀a:List (Nat×Obj),Upd (a++G) j Y b5 (a++b4)
 | []=>h
 | p::a =>.tail (h.append a)
theorem Vm{b:Nat}{cs:Array Value}{v:Value}(ho:ops[j]?=some ⟨none,.store A C b6,ty,pos,aft,none⟩)(hq:Vo ops j H=true){cs':Array Value}(hx:Fx.ev L C=some (.pointer (some ⟨b,s,none⟩)))(r:Fx.ev L b6=some v)(e:Zp cs s v.cells.toList=cs')(hu:Upd σ b (.cells cs m (0,0)) (.cells cs' m (0,0)) G)(hs:∀w,(Go.sizeOf A).run P w=.ok B w)(l:v.cells.size=B)(hle:s+B<=cs.size)(g:v.cells.toList.all flat=true)(k:Head P ops n S w0 Kf H L G Φ): Head P ops n S w0 Kf (j::H) L σ Φ :=
 .inr (.inl ⟨_,ho,hq,λa w D d=>Js ho (by
  subst e;obtain ⟨w',hr,q,f⟩:=d.store (hu.append D) hs l hle g;exact Al (w':=w') (by simp only[execOp,d.ev hx,d.ev r,bl,hr];rfl) ⟨⟨(λh=>by simp[early] at h),λu t z p he o c hc=>f c (by
   simp only[Op.store.injEq] at he;obtain ⟨_,rfl,_⟩:=he;have:=d.val t _ hx;rw[o] at this;cases this
   exact hc)⟩,undef,G,Φ,rfl,q,k⟩)⟩)
theorem Wn(ho:ops[j]?=some ⟨some t,.alloc A,m,p,g,none⟩)(hq:Nc ops j H=true)(hz:∀w,(zeroValue A).run P w=.ok V w)(hd:t<n)(k:∀b,Head P ops n S w0 Kf H ((t,.pointer (some ⟨b,0,none⟩))::L) ((b,.cells V.cells A (0,0))::σ) Φ): Head P ops n S w0 Kf (j::H) L σ Φ :=
 .inr (.inr (.inl ⟨t,A,V,m,p,g,ho,hq,hz,hd,k⟩))
theorem jA(k:∀a w,St n S w0 L σ Φ a w->Kf .normal a w): Head P ops n S w0 Kf [] L σ Φ:=k
theorem Wo(ho:ops[j]?=some ⟨some t,.call ⟨.value (.func r),E,e⟩,A,p,g,none⟩)(hq:Vo ops j H=true)(ha:E.toList.map (Fx.ev L)=F.map some)(hc:∀E w,(callFunc r E).run P w=.ok (.enter r E) w)(hf:Jk P r F V)(hd:t<n)(k:Head P ops n S w0 Kf H ((t,V)::L) σ Φ): Head P ops n S w0 Kf (j::H) L σ Φ :=
 Zu ho hq ha hc hf (λ_ hR=>nomatch hR) hd λu Ψ c=>by obtain ⟨rfl,rfl⟩:=c;exact k
theorem Xp{vs:List Value}(ho:ops[j]?=some ⟨some t,.call ⟨.value (.func r),E,e⟩,A,p,g,some (s,c)⟩)(hj:(ops[s]?).bind (·.dst)=some B)(ht:look L B=some (.bool c))(hq:Vo ops j H=true)(ha:E.toList.map (Fx.ev L)=vs.map some)(hc:∀E w,(callFunc r E).run P w=.ok (.enter r E) w)(hf:Jk P r vs V)(hd:t<n)(k:Head P ops n S w0 Kf H ((t,V)::L) σ Φ): Head P ops n S w0 Kf (j::H) L σ Φ :=
 LU ho hj ht hq ha hc hf (λ_ hR=>nomatch hR) hd λu Ψ h=>by obtain ⟨rfl,rfl⟩:=h;exact k
theorem Jn(k1:c=true->Head P ops n S w0 Kf H ((j,.bool true)::L) σ Φ)(k2:c=false->Head P ops n S w0 Kf H ((j,.bool false)::L) σ Φ): Head P ops n S w0 Kf H ((j,.bool c)::L) σ Φ:=by
 cases c
 ·exact k2 rfl
 exact k1 rfl
theorem F2(h:(H.all λj => !isF ops j)=true): AB P ops n H L:=λj hj d T ty pos after _ a=>by
 have:=List.all_eq_true.1 h j hj;rw[a] at this;cases this
def eL(P:Program)(ops:Array Oper)(n:Nat)(L:List (Nat×Value)): List Nat->Prop
 | []=>True
 | j::H=>(isF ops j=false \/ ∃d T ty pos after,ops[j]?=some ⟨some d,.alloc T,ty,pos,after,none⟩/\look L d=none/\d<n /\ ∃z,∀w,(zeroValue T).run P w=.ok z w)/\eL P ops n L H
theorem JM:∀ {H:List Nat},eL P ops n L H->AB P ops n H L
 | [],_=>λj hj=>nomatch hj
 | j::H,h=>λk hk d T ty pos after ho c=>by
  rcases List.mem_cons.1 hk with rfl|hk
  ·rcases h.1 with h1|⟨d',i,e,pos',b,a,h1,f,g⟩
   ·rw[h1] at c;cases c
   rw[ho] at a;simp only[vb,wN,Op.alloc.injEq] at a;obtain ⟨rfl,rfl,_⟩:=a;exact⟨h1,f,g⟩
  exact JM h.2 k hk d T ty pos after ho c
end
end Go.Fx
namespace Go.Fx
open Go Go.RowKit
variable{G E E2 T U e0:TypeId}{b5 J:Array Value}{a7 Z:Operand}{c7:Code}{c8:Option Nat}{u:Value->List (Nat×Obj)->Prop}{e2 a1:Bool}{W:Option (Nat×Bool)}{e e1:List (Nat×Obj)}{D:List Nat}{h:Nat×Nat}{b6 z:Value}{b2 H M:List Value}{b9 f:IntKind}{j d b0 B V m N e3:Nat}{c5:String}{C:Array Oper}{a6:TypeInfo}{r:Func}{A:Array TypeId}{O:Exit->Act->World->Prop}{b8:World}{t:Array Operand}{a8:Nat->Prop}{s:FuncId}{b7:Type}{c6:Array Edge}{F:Option Addr}{b3:Array (Nat×Operand)}(i:Nat)(c:TypeId)(g Y:Operand)(c3 c4:ByteArray)(l b1:Nat)(b4 e4:List Value)(x y:Int)
variable{ty:TypeId}{pos:String}{aft:Array Edge}
def Row(a:Option Addr)(L:List Value): Zs where
 p X w:=L≠[] -> ∃b off cs T fr,a=some ⟨b,off,none⟩ /\ ¬X b/\w.heap[b]?=some (.cells cs T fr) /\ ∀j,j<L.length->cs[off+j]?=L[j]?
 st X X' w w' h hk hs hX hne:=by
  obtain ⟨b,off,cs,T,fr,ha,hb,hc,hj⟩:=h hne;have hlt:b<w.heap.size:=by
   rcases el b w.heap.size with h'|h'
   ·exact h'
   simp[Array.getElem?_eq_none h'] at hc
  refine⟨b,off,cs,T,fr,ha,λhx=>?_,by rw[hk b hlt hb];exact hc,hj⟩;rcases hX b hx with h1|h1
  ·exact hb h1
  omega
section
variable{P:Program}{n:Nat}{S:Nat->Prop}{w0:World}{L:List (Nat×Value)}{σ σ':List (Nat×Obj)}{Φ:List Zs}{a:Act}{w:World}{K:Act->World->Prop}{Q:Exit->Act->World->Prop}
theorem St.fact(h:St n S w0 L σ Φ a w){R:Zs}(hR:R∈Φ): ∃X:Nat->Prop,(∀p∈σ,X p.1)/\(∀b,X b->b<w.heap.size)/\R.p X w:=by
 obtain ⟨X,_,c,e,d⟩:=h.facts;exact⟨X,c,e,d R hR⟩
theorem St.row_addr(h:St n S w0 L σ Φ a w){ad:Option Addr}(hR:Row ad M∈Φ)(c:M≠[]): ∃b off,ad=some ⟨b,off,none⟩:=by
 obtain ⟨X,_,_,d⟩:=h.fact hR;obtain ⟨b,off,_,_,_,ha,_⟩:=d c;exact⟨b,off,ha⟩
theorem St.derive(h:St n S w0 L σ Φ a w){R:Zs}(hR:∀X,(∀R∈Φ,R.p X w)->R.p X w): St n S w0 L σ (R::Φ) a w :=
 { h with
  facts:=by
   obtain ⟨X,h1,d,f,c⟩:=h.facts;exact⟨X,h1,d,f,λe b=>by
    rcases List.mem_cons.1 b with rfl|b
    ·exact hR X c
    exact c e b⟩ }
theorem St.factsSub(h:St n S w0 L σ Φ a w){Φ':List Zs}(hs:∀R∈Φ',R∈Φ): St n S w0 L σ Φ' a w :=
 { h with
  facts:=by
   obtain ⟨X,h1,b,d,c⟩:=h.facts;exact⟨X,h1,b,d,λR hR=>c R (hs R hR)⟩ }
theorem St.drop(h:St n S w0 L σ Φ a w)(hs:List.Sublist σ' σ): St n S w0 L σ' Φ a w :=
 { h with
  own:=λp b=>h.own p (hs.subset b)
  new:=λp b=>h.new p (hs.subset b)
  nd:=h.nd.sublist hs
  facts:=by
   obtain ⟨X,h1,c,e,d⟩:=h.facts;exact⟨X,h1,λp b=>c p (hs.subset b),e,d⟩ }
theorem St.share(r:St n S w0 L ((d,.cells J T h)::σ) Φ a w)(g:∀k,S k->k<w0.heap.size){off:Nat}(i:∀j,j<M.length->J[off+j]?=M[j]?):
  St n S w0 L σ (Row (some ⟨d,off,none⟩) M::Φ) a w :=
 { r with
  own:=λp c=>r.own p (aX _ c)
  new:=λp c=>r.new p (aX _ c)
  nd:=(List.pairwise_cons.1 r.nd).2
  facts:=by
   obtain ⟨X,h1,q,l,f⟩:=r.facts;have m:=r.new _ ae;refine⟨λk=>X k/\k≠d,λk hk=>⟨h1 k hk,λe=>?_⟩,λp c=>⟨q p (aX _ c),λe=>(List.pairwise_cons.1 r.nd).1 p c e.symm⟩,λk hk=>l k hk.1,λR hR=>?_⟩
   ·have:=g k hk;simp only at m;omega
   rcases List.mem_cons.1 hR with rfl|hR
   ·intro _;exact⟨d,off,J,T,h,rfl,λhk=>hk.2 rfl,r.own _ ae,i⟩
   exact R.st X _ w w (f R hR) (λ_ _ _=>rfl) (aZ _) (λk hk =>.inl hk.1) }
theorem CH(hR:(Row (some ⟨d,m,none⟩) M).p a8 w)(a:V<M.length)(hagg:∀w,(isAgg T).run P w=.ok a1 w)(hs:∀w,(Go.sizeOf T).run P w=.ok j w)(hv:Zm a1 j M.toArray V=some z)(q:a1=true\/j=1): (Instr.loadAt T (.pointer (some ⟨d,m+V,none⟩))).run P w=.ok z w:=by
 obtain ⟨k,c,cs,h,fr,ha,_,hc,hj⟩:=hR (λe=>by subst e;simp at a);cases ha
 refine Xz hc hagg hs ?_;unfold Zm at *
 cases a1 with
 | false=>simp only[oE,if_false] at hv ⊢;rw[hj V a];simpa using hv
 | true =>
  simp only[if_true] at hv ⊢;split at hv
  ·rename_i hle;cases hv
   simp at hle;have f:m+M.length<=cs.size:=by
    have h1:=hj (M.length-1) (by omega);have:(M.length-1)<M.length:=by omega
    rw[List.getElem?_eq_getElem this] at h1;obtain ⟨g,_⟩:=Array.getElem?_eq_some_iff.1 h1;omega
   rw[if_pos (by omega)];congr 2;apply ph;apply ur;intro i;simp only[vC,uH,List.getElem?_take,List.getElem?_drop];by_cases l:i<j
   ·rw[if_pos (by omega),if_pos (by omega)];have:=hj (V+i) (by omega);simp only[Array.getElem?_toList];rw[show m+V+i=m+(V+i) from by omega,this]
   rw[if_neg (by omega),if_neg (by omega)]
  cases hv
theorem Xm(h:St n S w0 L σ Φ a w){b off:Nat}{v:Value}(hx:Fx.ev L Z=some (.pointer (some ⟨b,off+j,none⟩)))(hm:Row (some ⟨b,off,none⟩) M∈Φ)(e:j<M.length)(hagg:∀w,(isAgg T).run P w=.ok a1 w)(hs:∀w,(Go.sizeOf T).run P w=.ok N w)(hv:Zm a1 N M.toArray j=some v)(c:a1=true\/N=1)(hd:d<n)(k:∀f,St n S w0 ((d,v)::L) σ Φ f w->K f w): (Oper.mk (some d) (.load T Z) ty pos aft W).wp P a w K Q:=by
 obtain ⟨X,_,_,i⟩:=h.fact hm;exact Qg (v:=v) (w':=w) (by
  simp only[execOp,h.ev hx,bl,CH i e hagg hs hv c];rfl) (k _ (h.put hd v))
theorem OO(h:St n S w0 L σ Φ a w){op:Op}(hr:(execOp a.eval (Oper.mk (some d) op ty pos aft W)).run P w=.ok (.value (.slice (some ⟨w.heap.size,0,none⟩) m V)) (w.alloc (.cells J T (0,0))))(hd:d<n)(k:∀b c w',St n S w0 ((d,.slice (some ⟨b,0,none⟩) m V)::L) ((b,.cells J T (0,0))::σ) Φ c w'->K c w'): (Oper.mk (some d) op ty pos aft W).wp P a w K Q :=
 Qg hr (k _ _ _ ((h.alloc _).put hd _))
theorem MH(h:St n S w0 L σ Φ a w)(vs:List (Nat×Value))(e:b3.toList.map (λp=>(p.1,Fx.ev L p.2))=vs.map (λp=>(p.1,some p.2)))(hr:∀w,(Instr.buildSlice T m vs.toArray).run P w=.ok (.slice (some ⟨w.heap.size,0,none⟩) m V) (w.alloc (.cells J E (0,0))))(hd:d<n)(k:∀b c w',St n S w0 ((d,.slice (some ⟨b,0,none⟩) m V)::L) ((b,.cells J E (0,0))::σ) Φ c w'->K c w'): (Oper.mk (some d) (.buildSlice T m b3) ty pos aft W).wp P a w K Q :=
 OO h (by simp only[execOp,Cm h e,bl,hr];rfl) hd k
def CL(m:Nat)(z:List Value): List Value:=(List.replicate m z).flatten
theorem Gd: (CL i b4).length=i*b4.length:=by simp[CL]
theorem Tl(z:List Value)(hz:z≠[]): ∀(m j:Nat),(CL m z)[j]?=if j<m*z.length then z[j%z.length]? else none
 | 0,j=>by simp[CL]
 | m+1,j=>by
  have a:0<z.length:=List.length_pos_iff.2 hz;have e:CL (m+1) z=z++CL m z:=by simp[CL,tS]
  rw[e,List.getElem?_append];split
  ·rename_i hj;rw[if_pos (by rw[Nat.succ_mul];omega),jg hj]
  rename_i hj;rw[Tl z hz m,Nat.succ_mul];have h1:(j-z.length)%z.length=j%z.length:=by
   rw[Nat.mod_eq_sub_mod (uy hj)]
  rw[h1];by_cases b:j-z.length<m*z.length
  ·rw[if_pos b,if_pos (by omega)]
  rw[if_neg b,if_neg (by omega)]
theorem Lp(z:Array Value)(hz:z≠#[]): (Array.range (i*z.size)).map (λj=>z[j%z.size]!)=(CL i z.toList).toArray:=by
 have b:z.toList≠[]:=λe=>hz (Array.toList_eq_nil_iff.1 e);have a:0<z.size:=by
  rcases oX z.size with h|h
  ·exact absurd (vW h) hz
  exact h
 apply ph;apply ur;intro j;rw[wW,Tl _ b];simp only[sm];by_cases hj:j<i*z.size
 ·have hm:j%z.size<z.size:=gF _ a;simp[hj,hm]
 simp[hj]
theorem run_askRoom: (askRoom i).run P w=.ok () w:=by
 unfold askRoom;split<;>rfl
theorem run_makeSlice(hT:∀w,(underlying T).run P w=.ok (.slice E) w)(o:∀w,(typeInfo E).run P w=.ok a6 w)(hk:∀w,(Go.sizeOf E).run P w=.ok d w)(hz:∀w,(zeroValue E).run P w=.ok z w)(b:z.cells.size=d)(c:d≠0)(h1:m<=V)(q:a6.bytes*V<=281474976710656)(r:V<=9223372036854775807):
  (Instr.makeSlice T (.int .i64 m) (.int .i64 V)).run P w=.ok (.slice (some ⟨w.heap.size,0,none⟩) m V) (w.alloc (.cells (CL V z.cells.toList).toArray E (0,0))):=by
 have wl:IntKind.i64.wrap (m:Int)=m:=by rw[wh];omega
 have p:IntKind.i64.wrap (V:Int)=V:=by rw[wh];omega
 have f:z.cells≠#[]:=λe=>by rw[e] at b;exact c b.symm
 have n:¬(2 ^ 48<(a6.bytes:Int)*(V:Int)):=by
  have:((a6.bytes*V:Nat):Int)<=281474976710656:=by omega
  rw[tD] at this;omega
 have hl:¬(281474976710656<(a6.bytes:Int)*(V:Int)):=by simpa using n
 have l:(asInt (.int .i64 (m:Int)))=(pure (m:Int):Sem Int):=rfl;have t:(asInt (.int .i64 (V:Int)))=(pure (V:Int):Sem Int):=rfl;have g:¬((V:Int)<0):=by omega
 have h:¬((m:Int)<0):=by omega
 have s:¬((V:Int)<(m:Int)):=by omega
 unfold Instr.makeSlice;simp only[bl,hT,Result.andThen,l,t];simp only[bl,o,Result.andThen,wl,p,ej];simp only[g,hl,h,s,decide_false,Bool.or_self,gt_iff_lt,Int.reducePow,oE,if_false,py];simp only[bl,run_askRoom,Result.andThen,hk,hz];by_cases a:V=0
 ·subst a;simp only[tH,if_true,ej,Result.andThen,bl];have j:(Array.range 0).map (λx=>(#[]:Array Value)[x%(#[]:Array Value).size]!)=(CL 0 z.cells.toList).toArray:=by
   apply ph;simp[CL,Array.range]
  rw[j];rfl
 have:V*d≠0:=uK a c;simp only[this,if_false,bl,hz,Result.andThen,ej];rw[<-b,Lp V z.cells f];rfl
theorem Qz(h:St n S w0 L σ Φ a w)(hx:Fx.ev L Z=some (.int .i64 V))(l:Fx.ev L a7=some (.int .i64 j))(hT:∀w,(underlying T).run P w=.ok (.slice E) w)(o:∀w,(typeInfo E).run P w=.ok a6 w)(hk:∀w,(Go.sizeOf E).run P w=.ok m w)(hz:∀w,(zeroValue E).run P w=.ok z w)(e:z.cells.size=m)(c:m≠0)(h1:V<=j)(p:a6.bytes*j<=281474976710656)(q:j<=9223372036854775807)(hd:d<n)(kk:∀b f w',St n S w0 ((d,.slice (some ⟨b,0,none⟩) V j)::L) ((b,.cells (CL j z.cells.toList).toArray E (0,0))::σ) Φ f w'->K f w'): (Oper.mk (some d) (.makeSlice T Z a7) ty pos aft W).wp P a w K Q :=
 OO h (by simp only[execOp,h.ev hx,h.ev l,bl,run_makeSlice hT o hk hz e c h1 p q];rfl) hd kk
theorem nextslicecap_le(h:l<i): Builtin.nextslicecap i l<=2*i+192:=by
 have d:∀(r l:Nat),l<i+(i+768)/4->Builtin.growBy i r l<=i+(i+768)/4:=by
  intro r;induction r with
  | zero=>intro l hc;simp only[Builtin.growBy];omega
  | succ r b =>
   intro l hc;simp only[Builtin.growBy];split
   ·omega
   rename_i h1;by_cases e:l+(l+768)/4<i+(i+768)/4
   ·exact b _ e
   omega
 unfold Builtin.nextslicecap;split
 ·omega
 split
 ·omega
 have:=d 4 l (by omega);omega
theorem Jz(c:w.heap[d]?=some (.cells J T h))(hm:m<=J.size):
  (loadCells ⟨d,0,none⟩ m).run P w=.ok (J.extract 0 m) w:=by
 have:=Xf (P:=P) w d 0 c m 0 #[] (by omega);simpa [loadCells] using this
theorem Dm(hz:z.cells≠#[])(m:Nat): Builtin.zeroCells z.cells m=(CL m z.cells.toList).toArray:=Lp m z.cells hz
theorem run_append_grow{c2:Nat}(hT:∀w,(underlying T).run P w=.ok (.slice G) w)(t:∀w,(underlying E).run P w=.ok (.slice U) w)(C:∀w,(typeInfo G).run P w=.ok a6 w)(hk:∀w,(Go.sizeOf G).run P w=.ok d w)(hz:∀w,(zeroValue G).run P w=.ok z w)(p:z.cells.size=d)(v:d≠0)(O:0<a6.bytes)(u:a6.bytes*(2*(m+V)+192)<=281474976710656)(hc:j<m+V)(hold:∀w':World,w'.heap=w.heap->(Builtin.firstCells d m (.slice F m j)).run P w'=.ok M.toArray w')(N:w.heap[B]?=some (.cells J E2 h))(y:V*d<=J.size)(x:J.extract 0 (V*d)=H.toArray)(ty:TypeId):
  ∃(g:Nat) (w':World),m+V<=g/\w'.heap=w.heap/\w'.os=w.os/\w'.tape=w.tape/\w'.output=w.output /\
   (Builtin.append_ #[T,E] ty #[.slice F m j,.slice (some ⟨B,0,none⟩) V c2]).run P w =
    .ok (.slice (some ⟨w'.heap.size,0,none⟩) (m+V) g) (w'.alloc (.cells (M++H++CL (g-(m+V)) z.cells.toList).toArray G (0,0))):=by
 have r:z.cells≠#[]:=λe=>by rw[e] at p;exact v p.symm
 have X:=nextslicecap_le (m+V) j hc;have f:¬(Builtin.nextslicecap (m+V) j*a6.bytes>2 ^ 48):=by
  have:Builtin.nextslicecap (m+V) j*a6.bytes<=(2*(m+V)+192)*a6.bytes:=cc _ X;rw[kI (2*(m+V)+192)] at this;have e:(2:Nat) ^ 48=281474976710656:=by decide
  omega
 have A:¬(((m+V:Nat):Int)>IntKind.i64.max/\(false=true\/a6.bytes=0)):=by
  rintro⟨_,W|W⟩
  ·cases W
  omega
 refine⟨(Question.appendCap (m+V) j G).cut (w.tape w.drawn (.appendCap (m+V) j G)),{ w with drawn:=w.drawn+1 },by simp[Question.cut],rfl,rfl,rfl,rfl,?_⟩;have R:=hold { w with drawn:=w.drawn+1 } rfl;have l:(Builtin.firstCells d V (.slice (some ⟨B,0,none⟩) V c2)).run P { w with drawn:=w.drawn+1 }=.ok H.toArray { w with drawn:=w.drawn+1 }:=by
  simp only[Builtin.firstCells];rw[Jz (w:={ w with drawn:=w.drawn+1 }) N y,x]
 generalize hq:(Question.appendCap (m+V) j G).cut (w.tape w.drawn (.appendCap (m+V) j G))=g at *
 have a:(choose (.appendCap (m+V) j G)).run P w=.ok g { w with drawn:=w.drawn+1 }:=by
  simp[choose,Sem.run,Question.forced,hq]
 unfold Builtin.append_;simp only[List.getElem?_toArray,List.getElem?_cons_zero,List.getElem?_cons_succ,bl,hT,t,hk,Result.andThen,ej,oE,if_false,Builtin.lenOf,Nat.not_le.2 hc,C,f,false_or];have o:¬(((m+V:Nat):Int)>IntKind.i64.max/\a6.bytes=0):=λW=>A ⟨W.1,.inr W.2⟩;simp only[o,if_false,bl,ej,Result.andThen,C,f,a,run_askRoom,R,uw,if_true,l,hz,Dm r];simp[newRow,newObj,Sem.run];rfl
theorem run_append_fits{n c2:Nat}(hT:∀w,(underlying T).run P w=.ok (.slice G) w)(i:∀w,(underlying E).run P w=.ok (.slice U) w)(hk:∀w,(Go.sizeOf G).run P w=.ok d w)(hc:n+V<=j)(h1:w.heap[B]?=some (.cells J E2 (0,0)))(y:j*d<=J.size)(s:w.heap[b0]?=some (.cells b5 e0 h))(l:V*d<=b5.size)(D:b5.extract 0 (V*d)=M.toArray)(o:M.all flat=true)(ty:TypeId):
  ∃w',(Builtin.append_ #[T,E] ty #[.slice (some ⟨B,0,none⟩) n j,.slice (some ⟨b0,0,none⟩) V c2]).run P w=.ok (.slice (some ⟨B,0,none⟩) (n+V) j) w' /\
   w'.os=w.os/\w'.tape=w.tape/\w'.output=w.output/\w'.heap.size=w.heap.size /\
   w'.heap[B]?=some (.cells (Zp J (n*d) M) E2 (0,0)) /\ ∀F,F≠B->w'.heap[F]?=w.heap[F]?:=by
 have hlen:M.length=V*d:=by
  have:=congrArg Array.size D;simp at this;omega
 have hle:n*d+V*d<=J.size:=by
  have:(n+V)*d<=j*d:=cc d hc;rw[dk] at this;omega
 obtain ⟨w',hr,z,x,A,C,r,t⟩:=Xk (P:=P) B (n*d) (T:=E2) M 0 w J h1 (by omega) (λu hu=>DO (List.all_eq_true.1 o u hu));refine⟨w',?_,z,x,A,C,by simpa using r,t⟩;have e:(Builtin.firstCells d V (.slice (some ⟨b0,0,none⟩) V c2)).run P w=.ok M.toArray w:=by
  simp only[Builtin.firstCells];rw[Jz s l,D]
 unfold Builtin.append_;simp only[List.getElem?_toArray,List.getElem?_cons_zero,List.getElem?_cons_succ,bl,hT,i,hk,Result.andThen,ej,oE,if_false,Builtin.lenOf,hc,if_true,uw,e,A8,ca];simp only[hr]
def Grow(k:Nat)(E:TypeId)(v:Value)(m:Nat)(xs:List Value)(σ σ1:List (Nat×Obj)): Prop :=
 xs.length=m*k /\
 ((v=.slice none 0 0/\m=0/\σ=σ1) \/
  (∃b c R,v=.slice (some ⟨b,0,none⟩) m c/\(xs++R).length=c*k/\m<=c/\σ=(b,Obj.cells (xs++R).toArray E (0,0))::σ1))
theorem Grow.sub(h:Grow d T z m M e e1): List.Sublist e1 e:=by
 rcases h with ⟨_,⟨_,_,rfl⟩|⟨b,c,R,_,_,_,rfl⟩⟩
 ·exact fT _
 exact tT _ _
theorem Kt:∀(ys xs R:List Value),ys.length<=R.length->Zp (xs++R).toArray xs.length ys=(xs++ys++R.drop ys.length).toArray
 | [],xs,R,_=>by simp[Zp]
 | y::ys,xs,[],h=>by simp at h
 | y::ys,xs,r::R,h=>by
  have e:((xs++r::R).toArray.setIfInBounds xs.length y)=((xs++[y])++R).toArray:=by
   apply ph;simp[wg]
  rw[Zp,e];have:=Kt ys (xs++[y]) R (by simpa using h);simp only[bd,dc,oT] at this;rw[show xs.length+1=xs.length+(0+1) from rfl,this];simp
theorem Lz(h:St n S w0 L ((d,.cells M.toArray T (0,0))::σ) Φ a w)(hx:Fx.ev L Z=some b6)(hy:Fx.ev L a7=some (.slice (some ⟨d,0,none⟩) N B))(v:Grow V U b6 j H σ e)(hT:∀w,(underlying E).run P w=.ok (.slice U) w)(A:∀w,(underlying G).run P w=.ok (.slice E2) w)(hi:∀w,(typeInfo U).run P w=.ok a6 w)(hk:∀w,(Go.sizeOf U).run P w=.ok V w)(hz:∀w,(zeroValue U).run P w=.ok z w)(C:z.cells.size=V)(i:V≠0)(x:0<a6.bytes)(b1:M.length=N*V)(Y:M.all flat=true)(o:0<N)(t:a6.bytes*(2*(j+N)+192)<=281474976710656)(hd:m<n)(kk:∀v' σ' w',Grow V U v' (j+N) (H++M) σ' e->St n S w0 ((m,v')::L) σ' Φ (a.put (some m) v') w'->K (a.put (some m) v') w'):
  (Oper.mk (some m) (.call ⟨.builtin .append,#[Z,a7],#[E,G]⟩) ty pos aft W).wp P a w K Q:=by
 obtain ⟨hlen,v⟩:=v;have hex:M.toArray.extract 0 (N*V)=M.toArray:=by rw[<-b1];apply ph;simp
 have r:∀b6 v' s w2,(Builtin.append_ #[E,G] ty #[b6,.slice (some ⟨d,0,none⟩) N B]).run P s=.ok v' w2 ->
   a.eval Z=b6->(execOp a.eval (Oper.mk (some m) (.call ⟨.builtin .append,#[Z,a7],#[E,G]⟩) ty pos aft W)).run P s=.ok (.value v') w2:=by
  intro b6 v' s w2 h1 J;have b0:(#[Z,a7]:Array Operand).map a.eval=#[b6,.slice (some ⟨d,0,none⟩) N B]:=by simp[J,h.ev hy]
  simp only[execOp,resolve,b0,bl,ej,Result.andThen,invoke,Go.builtin,h1]
 have l:∀(ad:Option Addr) (c:Nat),b6=.slice ad j c->c<j+N->(∀w':World,w'.heap=w.heap->(Builtin.firstCells V j (.slice ad j c)).run P w'=.ok H.toArray w')->List.Sublist e σ ->
   (Oper.mk (some m) (.call ⟨.builtin .append,#[Z,a7],#[E,G]⟩) ty pos aft W).wp P a w K Q:=by
  intro ad c hv hc hold F;subst hv;obtain ⟨c',w',O,f,a1,u,D,hr⟩:=run_append_grow (P:=P) (w:=w) (c2:=B) hT A hi hk hz C i x t hc hold (h.own _ ae) (by simp[b1]) hex ty;refine Qg (r _ _ _ _ hr (h.ev hx)) ?_;have g:St n S w0 L ((d,.cells M.toArray T (0,0))::σ) Φ a w':=by
   refine⟨h.size,h.defers,h.val,⟨by rw[a1];exact h.ext.os,by rw[u];exact h.ext.tape,by rw[D];exact h.ext.output,by rw[f];exact h.ext.size,λV hk=>by rw[f];exact h.ext.block V hk⟩,λp hp=>by rw[f];exact h.own p hp,h.new,h.nd,?_⟩;obtain ⟨X,h1,J,h3,h4⟩:=h.facts;exact⟨X,h1,J,by rw[f];exact h3,λR hR=>R.st X X w w' (h4 R hR) (λb _ _=>by rw[f]) (by rw[f];exact aZ _) (λb x =>.inl x)⟩
  refine kk _ _ _ ⟨by simp[hlen,b1,dk],.inr ⟨w'.heap.size,c',CL (c'-(j+N)) z.cells.toList,rfl,?_,O,rfl⟩⟩ ((((g.drop ((F.trans (tT _ _)))).alloc _).put hd _));simp only[bd,hlen,b1,Gd,sm,C];rw[<-dk, <-dk];congr 1;omega
 rcases v with ⟨rfl,k,rfl⟩|⟨b,c,R,rfl,hR,a8,rfl⟩
 ·subst k;have y:H=[]:=dn (by simpa using hlen);subst y;refine l none 0 rfl (by omega) (λw' _=>?_) (fT _);simp[Builtin.firstCells]
 by_cases hc:j+N<=c
 ·have q:=h.own (b,Obj.cells (H++R).toArray U (0,0)) (by simp);obtain ⟨w',hr,e1,e2,e3,e4,e5,e6⟩:=run_append_fits (P:=P) (w:=w) (c2:=B) (n:=j) hT A hk hc q (by simp at hR ⊢;omega) (h.own _ ae) (by simp[b1]) hex Y ty;have hle:M.length<=R.length:=by
   have h1:(j+N)*V<=c*V:=cc V hc;rw[dk] at h1;simp at hR;omega
  refine Qg (r _ _ _ _ hr (h.ev hx)) ?_;rw[<-hlen,Kt M H R hle] at e5;have g:=h.turn (σ':=(d,.cells M.toArray T (0,0))::(b,Obj.cells (H++M++R.drop M.length).toArray U (0,0))::e) (Upd.tail Upd.head) e1 e2 e3 e4 e5 e6;refine kk _ _ _ ⟨by simp[hlen,b1,dk],.inr ⟨b,c,R.drop M.length,rfl,?_,hc,rfl⟩⟩ ((g.drop (tT _ _)).put hd _);simp at hR ⊢;omega
 refine l _ c rfl (by omega) (λw' I=>?_) (tT _ _);have q:=h.own (b,Obj.cells (H++R).toArray U (0,0)) (by simp);rw[<-I] at q;simp only[Builtin.firstCells];rw[Jz q (by simp[hlen])];congr 1;apply ph;simp[hlen]
theorem ZW(h:St n S w0 L ((d,.cells M.toArray T (0,0))::σ) Φ a w)(hx:Fx.ev L Z=some b6)(u:Fx.ev L a7=some (.slice (some ⟨d,0,none⟩) N B))(F:Grow V U b6 j H σ e)(hT:∀w,(underlying E).run P w=.ok (.slice U) w)(q:∀w,(underlying G).run P w=.ok (.slice E2) w)(D:∀w,(typeInfo U).run P w=.ok a6 w)(hk:∀w,(Go.sizeOf U).run P w=.ok V w)(hz:∀w,(zeroValue U).run P w=.ok z w)(o:z.cells.size=V)(f:V≠0)(A:0<a6.bytes)(J:M.length=N*V)(l:M.all flat=true)(p:0<N)(b:a6.bytes*(2*(j+N)+192)<=281474976710656)(hd:m<n)(kk:∀v' σ' s w',Grow V U v' (j+N) (H++M) σ' e->St n S w0 ((m,v')::L) σ' Φ s w'->K s w'):
  (Oper.mk (some m) (.call ⟨.builtin .append,#[Z,a7],#[E,G]⟩) ty pos aft W).wp P a w K Q :=
 Lz h hx u F hT q D hk hz o f A J l p b hd λv' σ' w' C hs=>kk v' σ' _ w' C hs
theorem Qf(hT:∀w,(underlying d).run P w=.ok (.slice m) w)(hk:∀w,(Go.sizeOf m).run P w=.ok V w)(b off n c j:Nat)(h:j<n)(w:World):
  (Instr.indexAt d (.slice (some ⟨b,off,none⟩) n c) (.int .i64 (j:Int))).run P w=.ok (.pointer (some ⟨b,off+j*V,none⟩)) w:=by
 have e:asIntOf (.int .i64 (j:Int))=(pure (.i64,(j:Int)):Sem _):=rfl;have hj:(0:Int)<=(j:Int)/\(j:Int)<(n:Int):=by omega
 unfold Instr.indexAt;simp only[e,bl,ej,Result.andThen,hT,hj,and_self,if_true,hk,py,A8,Bool.and_false]
theorem P1(a:Addr): a.add 0=a:=by simp[Addr.add]
theorem AH(hT:∀w,(underlying d).run P w=.ok (.slice m) w)(hk:∀w,(Go.sizeOf m).run P w=.ok V w)(a:Option Addr)(n c j:Nat)(h:j<=c)(w:World):
  (Instr.sliceAt d (.slice a n c) none (some (.int .i64 (j:Int))) none).run P w=.ok (.slice a j c) w:=by
 have e:asIntOf (.int .i64 (j:Int))=(pure (.i64,(j:Int)):Sem _):=rfl;have hj:(0:Int)<=(j:Int)/\(j:Int)<=(c:Int):=by omega
 have ha:(if c=0 then a else a.map (λx=>x.add 0))=a:=by
  split
  ·rfl
  cases a<;>simp[P1]
 unfold Instr.sliceAt;simp only[bl,hT,Result.andThen,Instr.slice,Instr.sliceBounds,Instr.sliceBound,e,ej,hj,and_self,if_true,hk,py,tH,wG,ha]
theorem VJ(hT:∀w,(underlying d).run P w=.ok (.slice m) w)(hk:∀w,(Go.sizeOf m).run P w=.ok V w)(b off n c a i:Nat)(h1:a<=i)(g:i<=c)(h:a<c)(w:World):
  (Instr.sliceAt d (.slice (some ⟨b,off,none⟩) n c) (some (.int .i64 (a:Int))) (some (.int .i64 (i:Int))) none).run P w=.ok (.slice (some ⟨b,off+a*V,none⟩) (i-a) (c-a)) w:=by
 have e:∀j:Nat,asIntOf (.int .i64 (j:Int))=(pure (.i64,(j:Int)):Sem _):=λ_=>rfl;have hj:(0:Int)<=(i:Int)/\(i:Int)<=(c:Int):=by omega
 have hl:(0:Int)<=(a:Int)/\(a:Int)<=(i:Int):=by omega
 have f:c≠a:=by omega
 unfold Instr.sliceAt;simp only[bl,hT,Result.andThen,Instr.slice,Instr.sliceBounds,Instr.sliceBound,e,ej,hj,hl,and_self,if_true,hk,py,if_neg f,tC,A8]
theorem Zn{enc:b7->Value}{l:List b7}(b:b7)(h:d<l.length): Zm false 1 (l.map enc).toArray d=some (enc (l.getD d b)):=by
 simp[Zm,h]
theorem Fz(h:(Row F M).p a8 b8)(m:Nat): (Row F (M.take m)).p a8 b8:=by
 intro c;obtain ⟨b,off,cs,T,fr,ha,d,hc,hj⟩:=h (λe=>by subst e;simp at c);refine⟨b,off,cs,T,fr,ha,d,hc,λj a=>?_⟩;simp at a;rw[hj j (by omega),List.getElem?_take,if_pos (by omega)]
theorem wrap_i64(a:-9223372036854775808<=x)(h1:x<=9223372036854775807): IntKind.i64.wrap x=x:=by rw[wh];omega
theorem wrap_u64(a:0<=x)(h1:x<=18446744073709551615): IntKind.u64.wrap x=x:=by simp[IntKind.wrap,IntKind.bits,IntKind.signed];omega
theorem wrap_u32(a:0<=x)(h1:x<=4294967295): IntKind.u32.wrap x=x:=by simp[IntKind.wrap,IntKind.bits,IntKind.signed];omega
theorem wrap_u8(a:0<=x)(h1:x<=255): IntKind.u8.wrap x=x:=by simp[IntKind.wrap,IntKind.bits,IntKind.signed];omega
theorem AC: IntKind.u64.wrap x=x%18446744073709551616:=by simp[IntKind.wrap,IntKind.bits,IntKind.signed]
theorem Jf: IntKind.u32.wrap x=x%4294967296:=by simp[IntKind.wrap,IntKind.bits,IntKind.signed]
theorem Cz: IntKind.u8.wrap x=x%256:=by simp[IntKind.wrap,IntKind.bits,IntKind.signed]
theorem Vw(hs:b1<=f.bits):
  (do eqGuard .shr c g Y (.int f l) (.int b9 b1);Go.binOp .shr c (.int f l) (.int b9 b1):Sem Value).run P w=.ok (.int f ((l/2 ^ b1:Nat):Int)) w:=by
 have e:Int.fdiv (l:Int) (2 ^ b1)=((l/2 ^ b1:Nat):Int):=by
  rw[Int.fdiv_eq_ediv_of_nonneg _ (by exact_mod_cast cX _)];norm_cast
 have b:¬((b1:Int)<0):=by omega
 simp[eqGuard,Go.binOp,Op.shift,b,sp hs,e]
theorem CE(hs:b1<=f.bits):
  (do eqGuard .shl c g Y (.int f l) (.int b9 b1);Go.binOp .shl c (.int f l) (.int b9 b1):Sem Value).run P w=.ok (.int f (f.wrap ((l*2 ^ b1:Nat):Int))) w:=by
 have b:¬((b1:Int)<0):=by omega
 simp[eqGuard,Go.binOp,Op.shift,b,sp hs]
theorem Fv(hk:f.signed=false)(T:TypeId)(X Y:Operand)(x y:Nat)(hx:x<2 ^ f.bits)(a:y<2 ^ f.bits):
  (do eqGuard .or T X Y (.int f x) (.int f y);Go.binOp .or T (.int f x) (.int f y):Sem Value).run P w=.ok (.int f ((x ||| y:Nat):Int)) w:=by
 have c:(x ||| y)<2 ^ f.bits:=Nat.or_lt_two_pow hx a;have e:f.wrap ((BitVec.ofInt f.bits (x:Int) ||| BitVec.ofInt f.bits (y:Int)).toNat:Int)=((x ||| y:Nat):Int):=by
  have h1:BitVec.ofInt f.bits (x:Int)=BitVec.ofNat f.bits x:=by simp
  have b:BitVec.ofInt f.bits (y:Int)=BitVec.ofNat f.bits y:=by simp
  rw[h1,b,BitVec.toNat_or,tX,tX,jg hx,jg a];unfold IntKind.wrap;simp only[hk];simp;exact_mod_cast jg c
 simp[eqGuard,Go.binOp,Op.intBits];simpa using e
theorem G9(hk:f.signed=false)(T:TypeId)(X Y:Operand)(x y:Nat)(hx:x<2 ^ f.bits)(b:y<2 ^ f.bits):
  (do eqGuard .and T X Y (.int f x) (.int f y);Go.binOp .and T (.int f x) (.int f y):Sem Value).run P w=.ok (.int f ((x &&& y:Nat):Int)) w:=by
 have c:(x &&& y)<2 ^ f.bits:=gO Nat.and_le_left hx;have e:f.wrap ((BitVec.ofInt f.bits (x:Int) &&& BitVec.ofInt f.bits (y:Int)).toNat:Int)=((x &&& y:Nat):Int):=by
  have h1:BitVec.ofInt f.bits (x:Int)=BitVec.ofNat f.bits x:=by simp
  have a:BitVec.ofInt f.bits (y:Int)=BitVec.ofNat f.bits y:=by simp
  rw[h1,a,BitVec.toNat_and,tX,tX,jg hx,jg b];unfold IntKind.wrap;simp only[hk];simp;exact_mod_cast jg c
 simp[eqGuard,Go.binOp,Op.intBits];simpa using e
theorem B7:
  (do eqGuard .add c g Y (.int f x) (.int f y);Go.binOp .add c (.int f x) (.int f y):Sem Value).run P w=.ok (.int f (f.wrap (x+y))) w:=by
 simp[eqGuard,Go.binOp,Op.intArith]
theorem Jt(h:f.wrap (x+y)=x+y):
  (do eqGuard .add c g Y (.int f x) (.int f y);Go.binOp .add c (.int f x) (.int f y):Sem Value).run P w=.ok (.int f (x+y)) w:=by
 rw[B7,h]
theorem G6:
  (do eqGuard .sub c g Y (.int f x) (.int f y);Go.binOp .sub c (.int f x) (.int f y):Sem Value).run P w=.ok (.int f (f.wrap (x-y))) w:=by
 simp[eqGuard,Go.binOp,Op.intArith]
theorem hJ(h:f.wrap (x-y)=x-y):
  (do eqGuard .sub c g Y (.int f x) (.int f y);Go.binOp .sub c (.int f x) (.int f y):Sem Value).run P w=.ok (.int f (x-y)) w:=by
 rw[G6,h]
theorem CG:
  (do eqGuard .mul c g Y (.int f x) (.int f y);Go.binOp .mul c (.int f x) (.int f y):Sem Value).run P w=.ok (.int f (f.wrap (x*y))) w:=by
 simp[eqGuard,Go.binOp,Op.intArith]
theorem ib(h:f.wrap (x*y)=x*y):
  (do eqGuard .mul c g Y (.int f x) (.int f y);Go.binOp .mul c (.int f x) (.int f y):Sem Value).run P w=.ok (.int f (x*y)) w:=by
 rw[CG,h]
theorem ET(a:y≠0):
  (do eqGuard .quo c g Y (.int f x) (.int f y);Go.binOp .quo c (.int f x) (.int f y):Sem Value).run P w=.ok (.int f (f.wrap (x.tdiv y))) w:=by
 simp[eqGuard,Go.binOp,Op.intDiv,a]
theorem Yx(a:y≠0):
  (do eqGuard .rem c g Y (.int f x) (.int f y);Go.binOp .rem c (.int f x) (.int f y):Sem Value).run P w=.ok (.int f (x.tmod y)) w:=by
 simp[eqGuard,Go.binOp,Op.intDiv,a]
theorem oJ:
  (do eqGuard .eql c g Y (.int f x) (.int f y);Go.binOp .eql c (.int f x) (.int f y):Sem Value).run P w=.ok (.bool (x == y)) w:=by
 simp[eqGuard,Go.binOp,Op.intCmp]
theorem ow:
  (do eqGuard .neq c g Y (.int f x) (.int f y);Go.binOp .neq c (.int f x) (.int f y):Sem Value).run P w=.ok (.bool (x != y)) w:=by
 simp[eqGuard,Go.binOp,Op.intCmp]
theorem oC:
  (do eqGuard .lss c g Y (.int f x) (.int f y);Go.binOp .lss c (.int f x) (.int f y):Sem Value).run P w=.ok (.bool (decide (x<y))) w:=by
 simp[eqGuard,Go.binOp,Op.intCmp]
theorem oD:
  (do eqGuard .leq c g Y (.int f x) (.int f y);Go.binOp .leq c (.int f x) (.int f y):Sem Value).run P w=.ok (.bool (decide (x<=y))) w:=by
 simp[eqGuard,Go.binOp,Op.intCmp]
theorem oH:
  (do eqGuard .gtr c g Y (.int f x) (.int f y);Go.binOp .gtr c (.int f x) (.int f y):Sem Value).run P w=.ok (.bool (decide (x>y))) w:=by
 simp[eqGuard,Go.binOp,Op.intCmp]
theorem oI:
  (do eqGuard .geq c g Y (.int f x) (.int f y);Go.binOp .geq c (.int f x) (.int f y):Sem Value).run P w=.ok (.bool (decide (x>=y))) w:=by
 simp[eqGuard,Go.binOp,Op.intCmp]
theorem Ec: (c3.toList == c4.toList)=decide (c3=c4):=by
 rw[ByteArray.toList_eq,ByteArray.toList_eq,sv,beq_iff_eq,decide_eq_true_iff];exact⟨λh=>ByteArray.ext (ph h),λh=>by rw[h]⟩
theorem Is:
  (do eqGuard .eql c g Y (.string c3) (.string c4);Go.binOp .eql c (.string c3) (.string c4):Sem Value).run P w=.ok (.bool (decide (c3=c4))) w:=by
 rw[<-Ec];simp only[eqGuard,Go.binOp,Op.stringOp,bl];rfl
theorem run_equalIn_bool(hT:P.underlying c=some .bool)(s t:Bool): (Op.equalIn (i+1) c (.bool s) (.bool t)).run P w=.ok (s == t) w:=by
 have h:(underlying c).run P w=.ok .bool w:=by simp[underlying,program,Sem.run,hT]
 simp only[Op.equalIn,bl,h,Result.andThen];rfl
theorem Tg(hT:P.underlying c=some .bool)(X Y:Operand)(s t:Bool):
  (do eqGuard .eql c X Y (.bool s) (.bool t);Go.binOp .eql c (.bool s) (.bool t):Sem Value).run P w=.ok (.bool (s == t)) w:=by
 have a:∀w,(Op.equal c (.bool s) (.bool t)).run P w=.ok (s == t) w:=λw=>run_equalIn_bool (w:=w) 9999 c hT s t;simp only[eqGuard,Go.binOp,bl,a,Result.andThen];rfl
theorem Tf(hT:P.underlying c=some .bool)(X Y:Operand)(s t:Bool):
  (do eqGuard .neq c X Y (.bool s) (.bool t);Go.binOp .neq c (.bool s) (.bool t):Sem Value).run P w=.ok (.bool (s != t)) w:=by
 have a:∀w,(Op.equal c (.bool s) (.bool t)).run P w=.ok (s == t) w:=λw=>run_equalIn_bool (w:=w) 9999 c hT s t;simp only[eqGuard,Go.binOp,bl,a,Result.andThen];rfl
theorem CJ(hT:∀w,(underlying T).run P w=.ok .string w)(s:ByteArray)(j:Nat)(h:j<s.size):
  (Instr.index T (.string s) (.int .i64 (j:Int))).run P w=.ok (.int .u8 ((s.data.toList.getD j 0).toNat:Int)) w:=by
 have e:asIntOf (.int .i64 (j:Int))=(pure (.i64,(j:Int)):Sem _):=rfl;have a:(0:Int)<=(j:Int):=by omega
 have h1:s[j]?=some (s.data.toList.getD j 0):=by
  rw[getElem?_pos s j h];have:s[j]=s.data[j]:=rfl;rw[this];simp[List.getD];rw[Array.getElem?_eq_getElem h];rfl
 unfold Instr.index;simp only[e,bl,ej,Result.andThen,hT,a,if_true,py,h1]
theorem JJ(ho:C[d]?=some ⟨some m,.buildSlice T V b3,ty,pos,aft,none⟩)(hq:Vo C d D=true)(vs:List (Nat×Value))(e:b3.toList.map (λp=>(p.1,Fx.ev L p.2))=vs.map (λp=>(p.1,some p.2)))(hr:∀w,(Instr.buildSlice T V vs.toArray).run P w=.ok (.slice (some ⟨w.heap.size,0,none⟩) V j) (w.alloc (.cells J E (0,0))))(hd:m<n)(k:∀b,Head P C n S w0 O D ((m,.slice (some ⟨b,0,none⟩) V j)::L) ((b,.cells J E (0,0))::σ) Φ): Head P C n S w0 O (d::D) L σ Φ :=
 .inr (.inl ⟨_,ho,hq,λa w f c=>Js ho (Qg (v:=.slice (some ⟨w.heap.size,0,none⟩) V j) (w':=w.alloc (.cells J E (0,0)))
  (by simp only[execOp,Cm c e,bl,hr];rfl)
  ⟨⟨λ_=>(Below.refl _ _).alloc (aZ _) _,λ_ _ _ _ he=>by cases he⟩,_,(w.heap.size,.cells J E (0,0))::σ,Φ,rfl,((c.alloc _).perm uA).put hd _,k _⟩)⟩)
theorem St.shareAll(f:St n S w0 L ((d,.cells J T h)::σ) Φ a w)(e:∀k,S k->k<w0.heap.size)(M:List Value)(c:J=M.toArray):
  St n S w0 L σ (Row (some ⟨d,0,none⟩) M::Φ) a w:=f.share e (λj _=>by subst c;simp)
theorem A3(z:Value): CL i [z]=List.replicate i z:=by
 unfold CL;induction i with
 | zero=>rfl
 | succ i a=>simp[tS,a]
theorem Jc{enc:b7->Value}(l:List b7)(i:Nat)(y:b7): Zp (l.map enc).toArray i [enc y]=((l.set i y).map enc).toArray:=by
 simp[Zp,List.map_set]
theorem CC: Int.tdiv (i:Int) (l:Int)=((i/l:Nat):Int):=(Int.ofNat_tdiv i l).symm
theorem Yw: Int.tmod (i:Int) (l:Int)=((i%l:Nat):Int):=(Int.ofNat_tmod i l).symm
theorem Zf{b off j:Nat}{v:Value}(ho:C[d]?=some ⟨some m,.load T Z,ty,pos,aft,none⟩)(hq:Yz C true d D=true)(hx:Fx.ev L Z=some (.pointer (some ⟨b,off+j,none⟩)))(hm:Row (some ⟨b,off,none⟩) M∈Φ)(f:j<M.length)(hagg:∀w,(isAgg T).run P w=.ok a1 w)(hs:∀w,(Go.sizeOf T).run P w=.ok B w)(hv:Zm a1 B M.toArray j=some v)(e:a1=true\/B=1)(hd:m<n)(k:Head P C n S w0 O D ((m,v)::L) σ Φ): Head P C n S w0 O (d::D) L σ Φ :=
 .inl ⟨_,m,v,true,ho,rfl,hd,hq,λ_ _ _ a =>.inl ⟨rfl,λw' hw=>by
  obtain ⟨X,_,l,h⟩:=a.fact hm;have c:=(Row (some ⟨b,off,none⟩) M).st X X _ w' h (λb g _=>(hw rfl).block b g) (hw rfl).size (λb g =>.inl g);simp only[execOp,a.ev hx,bl,CH c f hagg hs hv e];rfl⟩,k⟩
theorem Gb{b off j:Nat}{v:Value}(r:List Nat)(ho:C[d]?=some ⟨some m,.load T Z,ty,pos,aft,none⟩)(hq:TX C d D r=true)(hx:Fx.ev L Z=some (.pointer (some ⟨b,off+j,none⟩)))(hm:Row (some ⟨b,off,none⟩) M∈Φ)(g:j<M.length)(hagg:∀w,(isAgg T).run P w=.ok a1 w)(hs:∀w,(Go.sizeOf T).run P w=.ok B w)(hv:Zm a1 B M.toArray j=some v)(U:a1=true\/B=1)(h:∀t∈r,∃p:Addr,look L t=some (.pointer (some p)) /\ ∃o,(p.block,o)∈σ)(hd:m<n)(k:Head P C n S w0 O D ((m,v)::L) σ Φ): Head P C n S w0 O (d::D) L σ Φ :=
 .inr (.inr (.inr (.inl ⟨_,m,v,b,r,ho,rfl,hd,hq,λa w F f=>by
  obtain ⟨X,_,y,I,N⟩:=f.facts;have A:=N _ hm;obtain ⟨G,z,cs,R,fr,ha,c,hc,hj⟩:=A (λe=>by subst e;simp at g);cases ha
  refine⟨_,hc,.inl ⟨rfl,λw' hw=>?_⟩,λq u=>λe=>c (e ▸ y q (hI _ u)),λt ht=>?_⟩
  ·have l:(Row (some ⟨b,off,none⟩) M).p X w':=λ_=>⟨b,off,cs,R,fr,rfl,c,hw,hj⟩
   simp only[execOp,f.ev hx,bl,CH l g hagg hs hv U];rfl
  obtain ⟨p,E,o,J⟩:=h t ht;exact⟨p,E,λe=>c (e ▸ y _ (eg _ J))⟩,k⟩)))
theorem Ki{t:Nat}{b off j:Nat}{v:Value}(ho:C[d]?=some ⟨some m,.load T Z,ty,pos,aft,some (V,a1)⟩)(hj:(C[V]?).bind (·.dst)=some t)(ht:look L t=some (.bool a1))(hq:Yz C true d D=true)(hx:Fx.ev L Z=some (.pointer (some ⟨b,off+j,none⟩)))(hm:Row (some ⟨b,off,none⟩) M∈Φ)(f:j<M.length)(hagg:∀w,(isAgg T).run P w=.ok e2 w)(hs:∀w,(Go.sizeOf T).run P w=.ok e3 w)(hv:Zm e2 e3 M.toArray j=some v)(e:e2=true\/e3=1)(hd:m<n)(k:Head P C n S w0 O D ((m,v)::L) σ Φ): Head P C n S w0 O (d::D) L σ Φ :=
 .inl ⟨_,m,v,true,ho,rfl,hd,hq,λ_ _ _ a =>.inl ⟨by rw[AD a hj ht];simp,λw' hw=>by
  obtain ⟨X,_,p,l⟩:=a.fact hm;have c:=(Row (some ⟨b,off,none⟩) M).st X X _ w' l (λb g _=>(hw rfl).block b g) (hw rfl).size (λb g =>.inl g);simp only[execOp,a.ev hx,bl,CH c f hagg hs hv e];rfl⟩,k⟩
def Xi(P:Program)(f:FuncId)(args:List Value)(Φ:List Zs)(v:Value): Prop:=Ctr P f args Φ (λu Ψ=>u=v/\Ψ=[])
theorem Qu(h:St n S w0 L σ Φ a w){vs:List Value}{Φ':List Zs}(ha:t.toList.map (Fx.ev L)=vs.map some)(hc:∀t w,(callFunc s t).run P w=.ok (.enter s t) w)(hf:Xi P s vs Φ' z)(b:∀R∈Φ',R∈Φ)(hd:d<n)(k:∀c w',St n S w0 ((d,z)::L) σ Φ c w'->K c w'): (Oper.mk (some d) (.call ⟨.value (.func s),t,A⟩) ty pos aft W).wp P a w K Q :=
 He h ha hc hf b hd λu Ψ c w' j e=>by obtain ⟨rfl,rfl⟩:=j;exact k c w' e
theorem Gm{vs:List Value}{Φ':List Zs}(ho:C[d]?=some ⟨some m,.call ⟨.value (.func s),t,A⟩,T,c5,c6,none⟩)(hq:Vo C d D=true)(ha:t.toList.map (Fx.ev L)=vs.map some)(hc:∀t w,(callFunc s t).run P w=.ok (.enter s t) w)(hf:Xi P s vs Φ' z)(a:∀R∈Φ',R∈Φ)(hd:m<n)(k:Head P C n S w0 O D ((m,z)::L) σ Φ): Head P C n S w0 O (d::D) L σ Φ :=
 Zu ho hq ha hc hf a hd λu Ψ e=>by obtain ⟨rfl,rfl⟩:=e;exact k
structure Mem(S:Nat->Prop)(w0:World)(σ:List (Nat×Obj))(Φ:List Zs)(w:World): Prop where
 ext:Below w0.heap.size w0 w
 own:∀p∈σ,w.heap[p.1]?=some p.2
 new:∀p∈σ,w0.heap.size<=p.1
 nd:σ.Pairwise (λp q=>p.1≠q.1)
 facts:∃X:Nat->Prop,(∀b,S b->X b)/\(∀p∈σ,X p.1)/\(∀b,X b->b<w.heap.size) /\ ∀R∈Φ,R.p X w
theorem St.mem(h:St n S w0 L σ Φ a w): Mem S w0 σ Φ w:=⟨h.ext,h.own,h.new,h.nd,h.facts⟩
def GX(P:Program)(f:FuncId)(args:List Value)(σ:List (Nat×Obj))(Φ:List Zs)(post:Value->List (Nat×Obj)->List Zs->Prop): Prop :=
 ∀(S:Nat->Prop) (w0 w:World),(∀k,S k->k<w0.heap.size)->Mem S w0 σ Φ w ->
  Calls P f args.toArray w λe w' => ∃v σ' Φ',e=.returned v/\post v σ' Φ'/\Mem S w0 σ' Φ' w'
def rN(S:Nat->Prop)(w0:World)(post:Value->List (Nat×Obj)->List Zs->Prop): Ending->World->Prop :=
 λe w' => ∃v σ' Φ',e=.returned v/\post v σ' Φ'/\Mem S w0 σ' Φ' w'
theorem fn_introM{post:Value->List (Nat×Obj)->List Zs->Prop}(hf:P.funcs[s]?=some r)(i:r.body=some c7)(j:r.ntmps=d)(hl:M.length<=d)(h:∀S w0 a w,(∀k,S k->k<w0.heap.size)->St d S w0 (mV 0 M) σ Φ a w->c7.wp P (bodyPost P r (rN S w0 post)) a w): GX P s M σ Φ post:=by
 intro S w0 w g hm;refine calls_of_wp hf i (h S w0 _ w g ⟨?_,rfl,λt v ht=>?_,hm.ext,hm.own,hm.new,hm.nd,hm.facts⟩)
 ·simp[j];omega
 obtain ⟨_,e⟩:=FO M 0 t v ht;have l:t<M.length:=by
  rcases el t M.length with b|b
  ·exact b
  simp[List.getElem?_eq_none b] at e
 simp at e;rw[tV,Array.getElem?_append_left (by simpa using l)];simp[e]
theorem retM(h:St n S w0 L σ Φ a w){post:Value->List (Nat×Obj)->List Zs->Prop}{Ψ:List Zs}(hr:(results r a.tmps).run P w=.ok z w)(c:post z e Ψ)(b:List.Sublist e σ)(hs:∀R∈Ψ,R∈Φ): bodyPost P r (rN S w0 post) .ret a w :=
 ⟨h.defers,z,hr,z,e,Ψ,rfl,c,((h.drop b).factsSub hs).mem⟩
theorem XA(h:St n S w0 L σ Φ a w){post:Value->List (Nat×Obj)->List Zs->Prop}{Ψ:List Zs}(hr:(results r a.tmps).run P w=.ok z w)(c:post z e Ψ)(b:List.Sublist e σ)(hs:∀R∈Ψ,R∈Φ): bodyPost P r (rN S w0 post) .normal a w:=retM (P:=P) h hr c b hs
theorem Vb(h:St n S w0 L σ Φ a w)(q:∀k,S k->k<w0.heap.size){vs:List Value}{Φ':List Zs}{post:Value->List (Nat×Obj)->List Zs->Prop}(ha:t.toList.map (Fx.ev L)=vs.map some)(hc:∀t w,(callFunc s t).run P w=.ok (.enter s t) w)(hf:GX P s vs e Φ' post)(j:σ.Perm e)(c:∀R∈Φ',R∈Φ)(hd:∀d',c8=some d'->d'<n)(k:∀v σ' Ψ o w',post v σ' Ψ->St n S w0 ((match c8 with|some d'=>[(d',v)]|none=>[])++L) σ' Ψ o w'->K o w'): (Oper.mk c8 (.call ⟨.value (.func s),t,A⟩) ty pos aft W).wp P a w K Q:=by
 have hr:(execOp a.eval (Oper.mk c8 (.call ⟨.value (.func s),t,A⟩) ty pos aft W)).run P w=.ok (.enter s vs.toArray) w:=by
  simp only[execOp,resolve,EN h ha,bl,Act.eval];simp[Deferred.ofValue,invoke,hc]
 simp only[Oper.wp,hr,Oper.upon];have p:St n S w0 L e Φ' a w:=(h.perm j.symm).factsSub c;refine(hf S w0 w q p.mem).mono ?_;rintro r w' ⟨v,σ',Ψ,rfl,l,hm⟩;have m:St n S w0 L σ' Ψ a w':=⟨h.size,h.defers,h.val,hm.ext,hm.own,hm.new,hm.nd,hm.facts⟩
 cases c8 with
 | none=>exact k v σ' Ψ _ _ l m
 | some c8=>exact k v σ' Ψ _ _ l (m.put (hd c8 rfl) v)
def CtrO(P:Program)(f:FuncId)(args:List Value)(Φ:List Zs)(post:Value->List (Nat×Obj)->Prop): Prop :=
 ∀(X:Nat->Prop) (w:World),(∀b,X b->b<w.heap.size)->(∀R∈Φ,R.p X w) ->
  Calls P f args.toArray w λe w' => ∃v σn,e=.returned v/\post v σn/\Below w.heap.size w w'/\(∀p∈σn,w.heap.size<=p.1/\w'.heap[p.1]?=some p.2)/\σn.Pairwise (λp q=>p.1≠q.1)
def rM(w0:World)(post:Value->List (Nat×Obj)->Prop): Ending->World->Prop :=
 λe w' => ∃v σn,e=.returned v/\post v σn/\Below w0.heap.size w0 w'/\(∀p∈σn,w0.heap.size<=p.1/\w'.heap[p.1]?=some p.2)/\σn.Pairwise (λp q=>p.1≠q.1)
theorem fn_introO(hf:P.funcs[s]?=some r)(l:r.body=some c7)(m:r.ntmps=d)(hl:M.length<=d)(h:∀S w0 a,(∀k,S k->k<w0.heap.size)->St d S w0 (mV 0 M) [] Φ a w0->c7.wp P (bodyPost P r (rM w0 u)) a w0): CtrO P s M Φ u:=by
 intro X w j g;refine calls_of_wp hf l (h X w _ j ⟨?_,rfl,λt v ht=>?_,Below.refl _ _,(λ_ b=>nomatch b),(λ_ b=>nomatch b),List.Pairwise.nil,⟨X,λ_ h=>h,(λ_ b=>nomatch b),j,g⟩⟩)
 ·simp[m];omega
 obtain ⟨_,i⟩:=FO M 0 t v ht;have p:t<M.length:=by
  rcases el t M.length with e|e
  ·exact e
  simp[List.getElem?_eq_none e] at i
 simp at i;rw[tV,Array.getElem?_append_left (by simpa using p)];simp[i]
theorem HV(h:St n S w0 L σ Φ a w)(hr:(results r a.tmps).run P w=.ok z w)(b:u z e)(c:List.Sublist e σ): bodyPost P r (rM w0 u) .ret a w:=by
 have d:=h.drop c;exact⟨h.defers,z,hr,z,e,rfl,b,h.ext,λp b=>⟨d.new p b,d.own p b⟩,d.nd⟩
theorem endO(h:St n S w0 L σ Φ a w)(hr:(results r a.tmps).run P w=.ok z w)(c:u z e)(b:List.Sublist e σ): bodyPost P r (rM w0 u) .normal a w:=HV (P:=P) h hr c b
theorem St.calledO(h:St n S w0 L σ Φ a w)(f:Below w.heap.size w b8)(g:∀p∈e,w.heap.size<=p.1/\b8.heap[p.1]?=some p.2)(hd:e.Pairwise (λp q=>p.1≠q.1)):
  St n S w0 L (e++σ) Φ a b8 where
 size:=h.size
 defers:=h.defers
 val:=h.val
 ext:=h.ext.trans (f.mono h.ext.size)
 own:=λp c=>by
  rcases List.mem_append.1 c with c|c
  ·exact(g p c).2
  rw[f.block _ (h.own_lt (b:=p.1) (o:=p.2) c)];exact h.own p c
 new:=λp c=>by
  rcases List.mem_append.1 c with c|c
  ·exact bp h.ext.size (g p c).1
  exact h.new p c
 nd:=List.pairwise_append.2 ⟨hd,h.nd,λp c q hq=>by
  have h1:=(g p c).1;have j:=h.own_lt (b:=q.1) (o:=q.2) hq;omega⟩
 facts:=by
  obtain ⟨X,h1,j,m,k⟩:=h.facts;refine⟨λb=>X b \/ ∃p∈e,p.1=b,λb f =>.inl (h1 b f),λp c=>?_,λb d=>?_,λR hR=>?_⟩
  ·rcases List.mem_append.1 c with c|c
   ·exact .inr ⟨p,c,rfl⟩
   exact .inl (j p c)
  ·rcases d with d|⟨p,c,rfl⟩
   ·exact gN (m b d) f.size
   have l:=(g p c).2;rcases el p.1 b8.heap.size with i|i
   ·exact i
   simp[Array.getElem?_eq_none i] at l
  refine R.st X _ w b8 (k R hR) (λb d _=>f.block b d) f.size (λb d=>?_);rcases d with d|⟨p,c,rfl⟩
  ·exact .inl d
  exact .inr (g p c).1
theorem UD(h:St n S w0 L σ Φ a w){Φ':List Zs}(ha:t.toList.map (Fx.ev L)=M.map some)(hc:∀t w,(callFunc s t).run P w=.ok (.enter s t) w)(hf:CtrO P s M Φ' u)(c:∀R∈Φ',R∈Φ)(hd:d<n){K:Act->World->Prop}(k:∀v b w',u v b->Ext w w'->St n S w0 ((d,v)::L) (b++σ) Φ (a.put (some d) v) w'->K (a.put (some d) v) w'): (Oper.mk (some d) (.call ⟨.value (.func s),t,A⟩) ty pos aft W).wp P a w K O:=by
 obtain ⟨X,h1,r,q,o⟩:=h.facts;have hr:(execOp a.eval (Oper.mk (some d) (.call ⟨.value (.func s),t,A⟩) ty pos aft W)).run P w=.ok (.enter s M.toArray) w:=by
  simp only[execOp,resolve,EN h ha,bl,Act.eval];simp[Deferred.ofValue,invoke,hc]
 simp only[Oper.wp,hr,Oper.upon];refine(hf X w q (λR hR=>o R (c R hR))).mono ?_;rintro e w' ⟨v,b,rfl,l,j,p,m⟩;exact k v b _ l j ((h.calledO j p m).put hd v)
theorem Xd(h:St n S w0 L σ Φ a w){vs:List Value}{Φ':List Zs}(ha:t.toList.map (Fx.ev L)=vs.map some)(hc:∀t w,(callFunc s t).run P w=.ok (.enter s t) w)(hf:CtrO P s vs Φ' u)(c:∀R∈Φ',R∈Φ)(hd:d<n)(k:∀v b j w',u v b->St n S w0 ((d,v)::L) (b++σ) Φ j w'->K j w'): (Oper.mk (some d) (.call ⟨.value (.func s),t,A⟩) ty pos aft W).wp P a w K Q :=
 UD h ha hc hf c hd λv b w' l _ e=>k v b _ _ l e
theorem Bg{vs:List Value}{Φ':List Zs}(ho:C[d]?=some ⟨some m,.call ⟨.value (.func s),t,A⟩,T,c5,c6,none⟩)(hq:Vo C d D=true)(ha:t.toList.map (Fx.ev L)=vs.map some)(hc:∀t w,(callFunc s t).run P w=.ok (.enter s t) w)(hf:CtrO P s vs Φ' u)(c:∀R∈Φ',R∈Φ)(hd:m<n)(k:∀v a,u v a->Head P C n S w0 O D ((m,v)::L) (a++σ) Φ): Head P C n S w0 O (d::D) L σ Φ :=
 .inr (.inl ⟨_,ho,hq,λ_ _ l e=>Js ho (UD e ha hc hf c hd λv a _ j hx b=>⟨⟨λ_=>hx,λ_ _ _ _ he=>by cases he⟩,v,a++σ,Φ,rfl,
  b.perm (by rw[<-cv, <-cv];exact vq σ uV),k v a j⟩)⟩)
theorem G8{ad:Option Addr}(hR:(Row (some ⟨d,m,none⟩) M).p a8 w)(a:M≠[]):
  (loadCells ⟨d,m,none⟩ M.length).run P w=.ok M.toArray w:=by
 obtain ⟨h,f,cs,T,fr,ha,_,hc,hj⟩:=hR a;cases ha
 have hle:m+M.length<=cs.size:=by
  have j:M.length≠0:=λe=>a (dn e);have:=hj (M.length-1) (by omega);rcases el (m+(M.length-1)) cs.size with l|l
  ·omega
  rw[Array.getElem?_eq_none l,List.getElem?_eq_getElem (by omega)] at this;simp at this
 have:=Xf (P:=P) w d m hc M.length 0 #[] (by omega);rw[loadCells];simp only[sh] at this;rw[this];congr 1;apply wE
 ·simp;omega
 intro i h1 c;have g:=hj i (by simpa using c);simp at h1 c ⊢;rw[Array.getElem?_eq_getElem (by omega),List.getElem?_eq_getElem c] at g;simpa using g
theorem VZ(h:St n S w0 L σ Φ a w)(hx:Fx.ev L Z=some (.slice (some ⟨b0,0,none⟩) j N))(I:Fx.ev L a7=some (.slice F V B))(hR:Row F M∈Φ)(A:M.length=V*m)(hT:∀w,(underlying T).run P w=.ok (.slice G) w)(hk:∀w,(Go.sizeOf G).run P w=.ok m w)(t:V<=j)(o:m≠0)(i:Zp J 0 M=b5)(hu:Upd σ b0 (.cells J U (0,0)) (.cells b5 U (0,0)) e)(hle:M.length<=J.size)(q:M.all flat=true)(hd:d<n)(kk:∀Y w',St n S w0 ((d,.int .i64 V)::L) e Φ Y w'->K Y w'): (Oper.mk (some d) (.call ⟨.builtin .copy,#[Z,a7],#[T,E]⟩) ty pos aft W).wp P a w K Q:=by
 subst i;obtain ⟨w',hr,R,y,g,O,C,x⟩:=Xk (P:=P) b0 0 (T:=U) M 0 w J (h.own _ hu.mem) (by omega) (λu hu=>DO ((List.all_eq_true.1 q) u hu));have D:=h.turn hu R y g O (by simpa using C) x;refine Qg (v:=.int .i64 V) (w':=w') ?_ (kk _ _ (D.put hd _));have z:(#[Z,a7]:Array Operand).map a.eval=#[.slice (some ⟨b0,0,none⟩) j N,.slice F V B]:=by simp[h.ev hx,h.ev I]
 have r:(Builtin.firstCells m V (.slice F V B)).run P w=.ok M.toArray w:=by
  by_cases c:M=[]
  ·subst c;have p:V=0:=by
    rcases oX V with l|l
    ·exact l
    have:=uZ l (tb o);simp at A;omega
   subst p;cases F<;>simp[Builtin.firstCells,loadCells,loadCellsFrom]
  obtain ⟨X,_,_,H⟩:=h.fact hR;obtain ⟨k,off,rfl⟩:=h.row_addr hR c;simp only[Builtin.firstCells];rw[<-A];exact G8 (ad:=none) H c
 have f:Nat.min V j=V:=sp t;simp only[execOp,resolve,z,bl,ej,Result.andThen,invoke,Go.builtin,Builtin.copy_,List.getElem?_toArray,List.getElem?_cons_zero,List.getElem?_cons_succ,hT,hk,Builtin.lenOf,f,r,hr,goInt]
theorem Q8(h:b4.length<=e4.length): Zp e4.toArray 0 b4=(b4++e4.drop b4.length).toArray:=by
 have:=Kt b4 [] e4 h;simpa using this
theorem Fw(h:St n S w0 L σ Φ a w)(hx:Fx.ev L Z=some (.func (.func s) M.toArray H.toArray))(ha:t.toList.map (Fx.ev L)=b2.map some)(hc:∀t w,(callFunc s t).run P w=.ok (.enter s t) w):
  (execOp a.eval (Oper.mk c8 (.call ⟨.value Z,t,A⟩) ty pos aft W)).run P w=.ok (.enter s (M++b2++H).toArray) w:=by
 simp only[execOp,resolve,EN h ha,bl,h.ev hx];simp[Deferred.ofValue,invoke,hc]
theorem TD(h:St n S w0 L σ Φ a w){Φ':List Zs}{post:Value->List Zs->Prop}(hx:Fx.ev L Z=some (.func (.func s) M.toArray H.toArray))(ha:t.toList.map (Fx.ev L)=b2.map some)(hc:∀t w,(callFunc s t).run P w=.ok (.enter s t) w)(hf:Ctr P s (M++b2++H) Φ' post)(b:∀R∈Φ',R∈Φ)(hd:d<n)(k:∀v Ψ i w',post v Ψ->St n S w0 ((d,v)::L) σ (Ψ++Φ) i w'->K i w'): (Oper.mk (some d) (.call ⟨.value Z,t,A⟩) ty pos aft W).wp P a w K Q:=by
 obtain ⟨X,h1,o,l,j⟩:=h.facts;simp only[Oper.wp,Fw h hx ha hc,Oper.upon];refine(hf X w l (λR hR=>j R (b R hR))).mono ?_;rintro e w' ⟨v,Ψ,rfl,m,q,p⟩;exact k v Ψ _ _ m ((h.called q h1 o l j p).put hd v)
theorem Cl(h:St n S w0 L σ Φ a w){fs cs:List Value}{vs:List Value}(hx:Fx.ev L Z=some (.func (.func s) fs.toArray cs.toArray))(ha:t.toList.map (Fx.ev L)=vs.map some)(hc:∀t w,(callFunc s t).run P w=.ok (.enter s t) w)(hf:Jk P s (fs++vs++cs) z)(hd:d<n)(k:∀b w',St n S w0 ((d,z)::L) σ Φ b w'->K b w'): (Oper.mk (some d) (.call ⟨.value Z,t,A⟩) ty pos aft W).wp P a w K Q :=
 TD h hx ha hc hf (λ_ hR=>nomatch hR) hd λu Ψ b w' i c=>by obtain ⟨rfl,rfl⟩:=i;exact k b w' c
abbrev u8s(l:List UInt8): List Value:=l.map (λb=>Value.int .u8 (b.toNat:Int))
theorem run_bytesToString(bs:List UInt8)(g:w.heap[d]?=some (.cells J T h))(a:J.extract 0 m=(u8s bs).toArray)(hm:m<=J.size):
  (Conv.bytesToString (.slice (some ⟨d,0,none⟩) m V)).run P w=.ok (.string ⟨bs.toArray⟩) w:=by
 unfold Conv.bytesToString;simp only[bl,Jz g hm,a,Result.andThen];rw[show(u8s bs).toArray=(bs.toArray.map (λd=>Value.int .u8 (d.toNat:Int))) from by simp];have key:∀(f:Value->ByteArray->Sem (ForInStep ByteArray)) (_:∀(d:UInt8) (acc:ByteArray) (w:World),(f (.int .u8 (d.toNat:Int)) acc).run P w=.ok (.yield (acc.push d)) w)
   (l:List UInt8) (acc:ByteArray) (w:World),((forIn (l.map (λd=>Value.int .u8 (d.toNat:Int))) acc f):Sem ByteArray).run P w=.ok ⟨acc.data++l.toArray⟩ w:=by
  intro f hf l;induction l with
  | nil=>intro acc w;simp
  | cons x l e =>
   intro acc w;simp only[eb,List.forIn_cons,bl,hf,Result.andThen];rw[e];simp[ByteArray.push]
 rw[show(bs.toArray.map (λd=>Value.int .u8 (d.toNat:Int)))=(bs.map (λd=>Value.int .u8 (d.toNat:Int))).toArray from by simp];rw[List.forIn_toArray,key]
 ·simp only[Result.andThen,ej];simp[ByteArray.empty,ByteArray.emptyWithCapacity];try rfl
 intro d acc w;simp
theorem Rq(h:St n S w0 L σ Φ a w){bs:List UInt8}(hx:Fx.ev L Z=some z)(f:Grow 1 U z m (u8s bs) σ e)(hT:∀w,(underlying T).run P w=.ok (.slice G) w)(o:∀w,(underlying E).run P w=.ok .string w)(r:∀w,(underlying G).run P w=.ok (.int .u8) w)(hd:d<n)(k:∀q,St n S w0 ((d,.string ⟨bs.toArray⟩)::L) σ Φ q w->K q w): (Oper.mk (some d) (.convert T E Z) ty pos aft W).wp P a w K Q:=by
 obtain ⟨hlen,f⟩:=f;have t:(Conv.bytesToString z).run P w=.ok (.string ⟨bs.toArray⟩) w:=by
  rcases f with ⟨rfl,rfl,_⟩|⟨b,c,R,rfl,hR,_,j⟩
  ·simp at hlen;subst hlen;rfl
  have s:=h.own (b,Obj.cells (u8s bs++R).toArray U (0,0)) (by rw[j];simp);refine run_bytesToString bs s ?_ (by simp at hlen ⊢;omega);apply ph;simp at hlen;simp[<-hlen]
 refine Qg (v:=.string ⟨bs.toArray⟩) (w':=w) ?_ (k _ (h.put hd _));simp only[execOp,h.ev hx,bl];have:(convert T E z).run P w=.ok (.string ⟨bs.toArray⟩) w:=by
  unfold convert;rcases f with ⟨rfl,_⟩|⟨b,c,R,rfl,_⟩<;>simp only[bl,hT,o,Result.andThen,r,t]
 rw[this];rfl
theorem YP{k:IntKind}(hk:k.signed=false)(T:TypeId)(X Y:Operand)(x y:Nat)(hx:x<2 ^ k.bits)(a:y<2 ^ k.bits):
  (do eqGuard .xor T X Y (.int k x) (.int k y);Go.binOp .xor T (.int k x) (.int k y):Sem Value).run P w=.ok (.int k ((x ^^^ y:Nat):Int)) w:=by
 have c:(x ^^^ y)<2 ^ k.bits:=vF hx a;have e:k.wrap ((BitVec.ofInt k.bits (x:Int) ^^^ BitVec.ofInt k.bits (y:Int)).toNat:Int)=((x ^^^ y:Nat):Int):=by
  have h1:BitVec.ofInt k.bits (x:Int)=BitVec.ofNat k.bits x:=by simp
  have b:BitVec.ofInt k.bits (y:Int)=BitVec.ofNat k.bits y:=by simp
  rw[h1,b,BitVec.toNat_xor,tX,tX,jg hx,jg a];unfold IntKind.wrap;simp only[hk];simp;exact_mod_cast jg c
 simp[eqGuard,Go.binOp,Op.intBits];simpa using e
theorem YQ{P: Program}(x y c: Nat)(hc: c <= 1)(w: World): (Extern.MathBitsCarry.three "Add64" #[.int .u64 (x : Int), .int .u64 (y : Int), .int .u64 (c : Int)]).run P w = .ok (x, y, c) w := by
 show((do
  let c:=(<-asInt (.int .u64 (c:Int))).toNat
  if c > 1 then unsupported (.noEntry ("extern/math/bits." ++ "Add64" ++ ": a carry that is neither 0 nor 1"))
  pure ((<-asInt (.int .u64 (x:Int))).toNat,(<-asInt (.int .u64 (y:Int))).toNat,c)):Sem (Nat×Nat×Nat)).run P w=_
 have hc':¬1<c:=by omega
 have e:∀n:Nat,(asInt (.int .u64 (n:Int))).run P w=.ok (n:Int) w:=λn=>rfl;simp only[e,bl,ej,Result.andThen,py,gt_iff_lt,hc',if_false]
theorem YY{P: Program}{f: FuncId}{fn: Func}(hf: P.funcs[f]? = some fn)(h1: (fn.name == "runtime.NumGoroutine") = false)(h2: fn.body = none)(h3: Extern.findNext fn = none)(h4: Extern.find fn = some (λargs => do
   let (x, y, c) <- Extern.MathBitsCarry.three "Add64" args
   pure (Extern.MathBitsCarry.pair ((x+y+c)%Extern.MathBitsCarry.m64) ((x+y+c)/Extern.MathBitsCarry.m64))))(x y c:Nat)(hc:c<=1)(w:World):
  (callFunc f #[.int .u64 (x:Int),.int .u64 (y:Int),.int .u64 (c:Int)]).run P w=.ok (.value (.tuple #[.int .u64 (((x+y+c)%18446744073709551616:Nat):Int),.int .u64 (((x+y+c)/18446744073709551616:Nat):Int)])) w:=by
 rw[run_callFunc_extern hf h1 (by rw[h2];rfl) h3 h4];have hm:Extern.MathBitsCarry.m64=18446744073709551616:=rfl;simp only[bl,YQ _ _ _ hc,Result.andThen,Extern.MathBitsCarry.pair,hm,ej];rfl
theorem pL(h:((d:Int) != (m:Int))=true): d≠m:=λe=>by subst e;simp at h
theorem iR{b:Nat}(h:((d:Int) != (b:Int))=false): d=b:=by simp only[bne_eq_false_iff_eq] at h;exact_mod_cast h
theorem natNe'{b:Nat}(h:((d:Int) == (b:Int))=false): d≠b:=λe=>by subst e;simp at h
theorem natEq'{b:Nat}(h:((d:Int) == (b:Int))=true): d=b:=by simp only[beq_iff_eq] at h;exact_mod_cast h
theorem gg(hx:i<4294967296): 4294967295 ^^^ i=4294967295-i:=by
 have h:=BitVec.toNat_not (x:=BitVec.ofNat 32 i);have b:(BitVec.allOnes 32 ^^^ BitVec.ofNat 32 i) = ~~~ (BitVec.ofNat 32 i):=BitVec.allOnes_xor;have a:=congrArg BitVec.toNat b;rw[BitVec.toNat_xor,h] at a;simp only[BitVec.toNat_allOnes,tX,jg (show i<2 ^ 32 by omega)] at a;have e:(2:Nat) ^ 32=4294967296:=by decide
 rw[e] at a;omega
theorem Ou(hx:i<4294967296): (Op.unary .xor (.int .u32 (i:Int))).run P w=.ok (.int .u32 ((4294967295-i:Nat):Int)) w:=by
 have h:=YP (P:=P) (w:=w) (k:=.u32) rfl 0 (.tmp 0) (.tmp 0) 4294967295 i (by decide) hx;rw[gg i hx] at h;show(Op.intBits .xor .u32 4294967295 (i:Int)).run P w=_;simpa [eqGuard,Go.binOp] using h
end
end Go.Fx
namespace Go.Fx
open Go
variable{n m:Nat}
def wds:Nat->List Nat
 | 0=>[]
 | n+1=>((n+1)%4294967296)::wds ((n+1)/4294967296)
termination_by n=>n
decreasing_by omega
def Zw:List Nat->Nat
 | []=>0
 | x::l=>x+4294967296*Zw l
def bytesOf:List Nat->List UInt8
 | []=>[]
 | x::l=>UInt8.ofNat x::UInt8.ofNat (x/256)::UInt8.ofNat (x/65536)::UInt8.ofNat (x/16777216)::bytesOf l
def Yk(n:Nat): Int:=if n<18446744073709551616 then (n:Int) else 0
def Xr(n:Nat): ByteArray:=if n<18446744073709551616 then ⟨#[]⟩ else ⟨(bytesOf (wds n)).toArray⟩
abbrev Ke(n:Nat): Value:=.agg #[.int .u64 (Yk n),.string (Xr n)]
abbrev encZ(z:Int): Value:=.agg #[.int .u64 (Yk z.natAbs),.string (Xr z.natAbs),.bool (decide (z<0))]
abbrev Qa(q:Rat): Value:=.agg #[.int .u64 (Yk q.num.natAbs),.string (Xr q.num.natAbs),.bool (decide (q.num<0)),.int .u64 (Yk (q.den-1)),.string (Xr (q.den-1))]
theorem AZ:wds 0=[]:=by unfold wds;rfl
theorem CB(h:n≠0): wds n=(n%4294967296)::wds (n/4294967296):=by
 cases n with
 | zero=>exact absurd rfl h
 | succ n=>rw[wds]
theorem Ja:∀n:Nat,Zw (wds n)=n:=by
 intro n;induction n using Nat.strongRecOn with
 | _ n a =>
  by_cases h:n=0
  ·subst h;rw[AZ];rfl
  rw[CB h,Zw,a (n/4294967296) (by omega)];omega
theorem XJ:∀(n:Nat),∀x∈wds n,x<4294967296:=by
 intro n;induction n using Nat.strongRecOn with
 | _ n a =>
  by_cases h:n=0
  ·subst h;rw[AZ];intro x hx;cases hx
  rw[CB h];intro x hx;rcases List.mem_cons.1 hx with rfl|hx
  ·omega
  exact a _ (by omega) x hx
theorem bytesOf_length:∀l,(bytesOf l).length=4*l.length
 | []=>rfl
 | x::l=>by simp[bytesOf,bytesOf_length l];omega
theorem KE:∀(l:List Nat) (i k:Nat),i<l.length->k<4->((bytesOf l)[4*i+k]?).map UInt8.toNat=(l[i]?).map (λx=>x/256 ^ k%256)
 | [],i,k,h,_=>by simp at h
 | x::l,0,k,_,hk=>by
  match k,hk with
  | 0,_=>simp[bytesOf]
  | 1,_=>simp[bytesOf]
  | 2,_=>simp[bytesOf]
  | 3,_=>simp[bytesOf]
 | x::l,i+1,k,h,hk=>by
  have e:4*(i+1)+k=(4*i+k)+1+1+1+1:=by omega
  rw[e];simp only[bytesOf,List.getElem?_cons_succ];exact KE l i k (by simpa using h) hk
theorem Ce(h:n<18446744073709551616): (wds n).length<=2:=by
 by_cases a:n=0
 ·subst a;simp[AZ]
 rw[CB a];by_cases h1:n/4294967296=0
 ·simp[h1,AZ]
 rw[CB h1];have:n/4294967296/4294967296=0:=by omega
 simp[this,AZ]
theorem XM(h:¬n<18446744073709551616): 3<=(wds n).length:=by
 rw[CB (by omega),CB (by omega),CB (by omega)];simp
theorem KD:∀ {l m:List Nat},(∀x∈l,x<4294967296)->(∀x∈m,x<4294967296)->bytesOf l=bytesOf m->l=m
 | [],[],_,_,_=>rfl
 | [],x::m,_,_,h=>by simp[bytesOf] at h
 | x::l,[],_,_,h=>by simp[bytesOf] at h
 | x::l,y::m,hl,hm,h=>by
  simp only[bytesOf,s7] at h;obtain ⟨f,h1,d,g,e⟩:=h;have a:=congrArg UInt8.toNat f;have b:=congrArg UInt8.toNat h1;have i:=congrArg UInt8.toNat d;have c:=congrArg UInt8.toNat g;simp at a b i c;have hx:=hl x ae;have j:=hm y ae;have:x=y:=by omega
  rw[this,KD (λz hz=>hl z (aX _ hz)) (λz hz=>hm z (aX _ hz)) e]
theorem Gp(h:n<18446744073709551616): Xr n=⟨#[]⟩:=by simp[Xr,h]
theorem Qk(h:n<18446744073709551616): Yk n=n:=by simp[Yk,h]
theorem ED(h:¬n<18446744073709551616): Xr n=⟨(bytesOf (wds n)).toArray⟩:=by simp[Xr,h]
theorem V4(h:¬n<18446744073709551616): Yk n=0:=by simp[Yk,h]
theorem D3(n:Nat): (Xr n).size=if n<18446744073709551616 then 0 else 4*(wds n).length:=by
 unfold Xr;split
 ·rfl
 simp[ByteArray.size,bytesOf_length]
theorem Qx: (Xr n=⟨#[]⟩)↔n<18446744073709551616:=by
 constructor
 ·intro h;refine tE λa=>?_;have h1:=D3 n;rw[h,if_neg a] at h1;have:=XM a;have b:(ByteArray.mk #[]).size=0:=rfl;omega
 exact Gp
theorem Nx(h1:Yk n=Yk m)(b:Xr n=Xr m): n=m:=by
 by_cases a:n<18446744073709551616
 ·have hm:m<18446744073709551616:=by rw[<-Qx, <-b,Qx];exact a
  rw[Qk a,Qk hm] at h1;omega
 have hm:¬m<18446744073709551616:=by rw[<-Qx, <-b,Qx];exact a
 rw[ED a,ED hm] at b;have c:bytesOf (wds n)=bytesOf (wds m):=by simpa using b
 have:=KD (XJ n) (XJ m) c;rw[<-Ja n,this,Ja]
end Go.Fx
namespace Go.Fx
open Go
variable{U N t T j h:Nat}{Z Y l:List Nat}(f:List Nat)(i k o:Nat)
abbrev Xg(l:List Nat): List Value:=l.map (λx:Nat=>Value.int .u32 (x:Int))
def Wd(l:List Nat): Prop := ∀x∈l,x<4294967296
theorem Wd.wds: Wd (wds i):=XJ i
theorem Wd.take(h:Wd l)(m:Nat): Wd (l.take m):=λx hx=>h x (tK hx)
theorem Wd.getD(h:Wd l)(j:Nat): l.getD j 0<4294967296:=by
 rw[List.getD_eq_getElem?_getD];by_cases hj:j<l.length
 ·rw[List.getElem?_eq_getElem hj];exact h _ (uC hj)
 rw[List.getElem?_eq_none (by omega)];simp
theorem Jy:∀(l m:List Nat),Zw (l++m)=Zw l+4294967296 ^ l.length*Zw m
 | [],m=>by simp[Zw]
 | x::l,m=>by
  simp only[gH,Zw,Jy l m,dc,iX,fI, <-gE,gT];congr 2;rw[kI (4294967296 ^ l.length) 4294967296]
theorem Vu:∀ {l:List Nat},Wd l->Zw l<4294967296 ^ l.length
 | [],_=>by simp[Zw]
 | x::l,h=>by
  have h1:=Vu (l:=l) (λy a=>h y (aX _ a));have b:=h x ae;simp only[Zw,dc,iX];have:4294967296*(Zw l+1)<=4294967296*4294967296 ^ l.length:=hD _ h1;rw[kI (4294967296 ^ l.length)];omega
theorem XI:∀ {l:List Nat},Wd l->(∀h:l≠[],l.getLast h≠0)->wds (Zw l)=l
 | [],_,_=>by simp[Zw,AZ]
 | x::l,h,hl=>by
  have hx:=h x ae;have a:Zw (x::l)≠0:=by
   intro c;simp only[Zw] at c;cases l with
   | nil=>exact hl (by simp) (by simp[Zw] at c;simp[c])
   | cons y l =>
    have b:Zw (y::l)=0:=by omega
    have:=XI (l:=y::l) (λz hz=>h z (aX _ hz)) (λd=>by have:=hl (by simp);simpa using this);rw[b,AZ] at this;cases this
  rw[CB a];have h1:Zw (x::l)%4294967296=x:=by simp only[Zw];omega
  have b:Zw (x::l)/4294967296=Zw l:=by simp only[Zw];omega
  rw[h1,b,XI (λz hz=>h z (aX _ hz)) (λd=>by
   have:=hl (by simp);rwa[List.getLast_cons d] at this)]
theorem Io(h:wds i≠[]): (wds i).getLast h≠0:=by
 induction i using Nat.strongRecOn with
 | _ i a =>
  have b:i≠0:=λe=>h (by rw[e,AZ]);simp only[CB b] at h ⊢;by_cases h1:wds (i/4294967296)=[]
  ·have c:i/4294967296=0:=by
    have:=Ja (i/4294967296);rw[h1] at this;simp[Zw] at this;omega
   simp only[h1,List.getLast_singleton];omega
  rw[List.getLast_cons h1];exact a _ (by omega) h1
theorem Ea:∀(l:List Nat),(∀x∈l,x=0)->Zw l=0
 | [],_=>rfl
 | x::l,h=>by
  simp[Zw,h x ae,Ea l (λy a=>h y (aX _ a))]
theorem Oi(hz:∀j,N<=j->j<l.length->l.getD j 0=0): Zw (l.take N)=Zw l:=by
 conv=>rhs;rw[<-ls N l,Jy]
 rw[Ea (l.drop N) (λx hx=>by
  obtain ⟨i,a,rfl⟩:=List.mem_iff_getElem.1 hx;simp at a;have:=hz (N+i) (by omega) (by omega);rw[List.getD_eq_getElem?_getD,List.getElem?_eq_getElem (by omega)] at this;simpa using this)]
 simp
theorem dJ(hw:Wd l)(hm:N<=l.length)(hz:∀j,N<=j->j<l.length->l.getD j 0=0)(hl:N=0\/l.getD (N-1) 0≠0): wds (Zw l)=l.take N:=by
 rw[<-Oi hz];refine XI (hw.take N) (λa=>?_);have hlen:(l.take N).length=N:=by simp;omega
 rcases hl with rfl|hl
 ·simp at a
 have b:0<N:=by
  rcases oX N with h|h
  ·subst h;simp at a
  exact h
 rw[wD];simp only[hlen];rw[vP];rw[List.getD_eq_getElem?_getD,List.getElem?_eq_getElem (by omega)] at hl;simpa using hl
theorem Fl(hw:Wd l): (wds (Zw l)).length<=l.length:=by
 rcases el l.length (wds (Zw l)).length with h|h
 ·exfalso;have h1:=Vu hw;have a:wds (Zw l)≠[]:=λe=>by rw[e] at h;simp at h
  have b:=Ja (Zw l);rw[<-u3 a,Jy] at b;have f:=Io _ a;simp only[Zw,vB,vN,sh] at b;have c:4294967296 ^ l.length<=4294967296 ^ ((wds (Zw l)).length-1):=js (by omega) (by omega);have d:4294967296 ^ ((wds (Zw l)).length-1)*1<=4294967296 ^ ((wds (Zw l)).length-1)*(wds (Zw l)).getLast a:=hD _ (by omega);omega
 exact h
theorem XS(h:i<18446744073709551616): Zw [i%4294967296,i/4294967296]=i:=by simp[Zw];omega
theorem two_Wd(h:i<18446744073709551616): Wd [i%4294967296,i/4294967296]:=by
 intro x hx;simp at hx;omega
def BI(l:List Nat)(i k:Nat): List Nat:=l.take i++(if i<l.length then [l.getD i 0%256 ^ k] else [])++List.replicate (l.length-i-1) 0
theorem BR(h:i<f.length): (BI f i k).length=f.length:=by simp[BI,h];omega
theorem Lr: BI f 0 0=List.replicate f.length 0:=by
 cases f with
 | nil=>rfl
 | cons x f=>simp[BI,Nat.mod_one,tS]
theorem OI(h:i<f.length): (BI f i k).getD i 0=f.getD i 0%256 ^ k:=by
 simp only[BI,h,if_true];rw[List.getD_eq_getElem?_getD,cv,List.getElem?_append_right (by simp;omega)];simp[sp (tI h)]
theorem OH(h:i<f.length): (BI f i k).set i (f.getD i 0%256 ^ o)=BI f i o:=by
 simp only[BI,h,if_true];rw[cv,cv,uU _ _ (by simp;omega)];simp[sp (tI h)]
theorem Lu(h:i<f.length)(hw:Wd f): BI f i 4=BI f (i+1) 0:=by
 have h1:f.getD i 0%256 ^ 4=f.getD i 0:=jg (hw.getD i);simp only[BI,h,if_true,h1];rw[uQ h];have c:f.getD i 0=f[i]:=by simp[List.getD,h]
 rw[c];by_cases a:i+1<f.length
 ·simp only[a,if_true];have e:f.length-i-1=(f.length-(i+1)-1)+1:=by omega
  rw[e,tS];simp[Nat.mod_one]
 simp only[a,if_false];have e:f.length-i-1=0:=by omega
 have b:f.length-(i+1)-1=0:=by omega
 rw[e,b];simp
theorem OJ: BI f f.length 0=f:=by simp[BI]
theorem ZO: (i%256 ^ k) ||| (i/256 ^ k%256*2 ^ (8*k))=i%256 ^ (k+1):=by
 have e:(256:Nat) ^ k=2 ^ (8*k):=by rw[vY]
 have h1:i%256 ^ k<2 ^ (8*k):=by rw[<-e];exact gF _ (tp (by omega))
 have a:=tj h1 (i/256 ^ k%256);rw[ux] at a;rw[wQ, <-a,iX,e,Nat.mod_mul];rw[kI];omega
theorem PS(c:¬N<18446744073709551616)(b:j<(wds N).length)(hk:T<4):
  ((Xr N).data.toList.getD (4*j+T) 0).toNat=(wds N).getD j 0/256 ^ T%256:=by
 rw[ED c];have h:=KE (wds N) j T b hk;have a:4*j+T<(bytesOf (wds N)).length:=by rw[bytesOf_length];omega
 simp only[wW];rw[List.getD_eq_getElem?_getD,List.getD_eq_getElem?_getD];rw[List.getElem?_eq_getElem a] at h ⊢;rw[List.getElem?_eq_getElem b] at h ⊢;simpa using h
theorem Ft(hk:k<4): i%256*2 ^ (8*k)<4294967296:=by
 have h1:i%256<256:=gF _ (by omega)
 match k,hk with
 | 0,_=>simp;omega
 | 1,_=>simp;omega
 | 2,_=>simp;omega
 | 3,_=>simp;omega
theorem EJ(h:i<f.length): Zw (f.take (i+1))=Zw (f.take i)+2 ^ (32*i)*f.getD i 0:=by
 rw[uQ h,Jy];have e:(4294967296:Nat) ^ (f.take i).length=2 ^ (32*i):=by
  rw[db,sp (tI h),vY]
 rw[e];simp[Zw,List.getD,h]
theorem pE(h:i<f.length)(hw:Wd f): Zw (f.take i) ||| (f.getD i 0*2 ^ (32*i))=Zw (f.take (i+1)):=by
 have h1:Zw (f.take i)<2 ^ (32*i):=by
  have:=Vu (hw.take i);rw[db,sp (tI h)] at this;have e:(4294967296:Nat) ^ i=2 ^ (32*i):=by rw[vY]
  omega
 have a:=tj h1 (f.getD i 0);rw[ux] at a;rw[wQ, <-a,EJ f i h,kI];omega
theorem IR(hx:i<4294967296)(a:k<2): i*2 ^ (32*k)<18446744073709551616:=by
 match k,a with
 | 0,_=>simp;omega
 | 1,_=>simp;omega
theorem Oj(hw:Wd l)(h:l.length<=2): Zw l<18446744073709551616:=by
 have h1:=Vu hw;have a:(4294967296:Nat) ^ l.length<=4294967296 ^ 2:=js (by omega) h;omega
theorem QQ(h:2<(wds N).length): ¬N<18446744073709551616:=λa=>by have:=Ce a;omega
theorem EO:∀(l m:List Nat),bytesOf (l++m)=bytesOf l++bytesOf m
 | [],_=>rfl
 | x::l,m=>by simp[bytesOf,EO l m]
theorem Wz(h:i<f.length): ((bytesOf (f.take i)).map (λb=>Value.int .u8 (b.toNat:Int))) ++
  [.int .u8 ((f.getD i 0%256:Nat):Int),.int .u8 ((f.getD i 0/2 ^ 8%256:Nat):Int),.int .u8 ((f.getD i 0/2 ^ 16%256:Nat):Int),.int .u8 ((f.getD i 0/2 ^ 24%256:Nat):Int)] =
  (bytesOf (f.take (i+1))).map (λb=>Value.int .u8 (b.toNat:Int)):=by
 rw[uQ h,EO,dv];have:f.getD i 0=f[i]:=by simp[List.getD,h]
 rw[this];simp[bytesOf]
theorem Au:∀(l:List Nat) (i v:Nat),i<l.length->Zw (l.set i v)+4294967296 ^ i*l.getD i 0=Zw l+4294967296 ^ i*v
 | [],i,v,h=>by simp at h
 | x::l,0,v,_=>by simp[Zw];omega
 | x::l,i+1,v,h=>by
  have c:=Au l i v (by simpa using h);simp only[List.set_cons_succ,Zw,wZ,iX];have b:4294967296 ^ i*4294967296*l.getD i 0=4294967296*(4294967296 ^ i*l.getD i 0):=by rw[kI (4294967296 ^ i) 4294967296,gE]
  have a:4294967296 ^ i*4294967296*v=4294967296*(4294967296 ^ i*v):=by rw[kI (4294967296 ^ i) 4294967296,gE]
  rw[b,a];omega
theorem Ch: Zw (f.drop i)=f.getD i 0+4294967296*Zw (f.drop (i+1)):=by
 rcases el i f.length with h|h
 ·rw[oF h,Zw];simp[List.getD,h]
 rw[th h,th (by omega)];simp[Zw,List.getD,h]
theorem Wd.set(h:Wd l)(i v:Nat)(hv:v<4294967296): Wd (l.set i v):=by
 intro x hx;rcases uG hx with a|a
 ·exact h x a
 omega
theorem Wd.drop(h:Wd l)(m:Nat): Wd (l.drop m):=λx hx=>h x (wR hx)
theorem Wd.append(h:Wd l)(a:Wd Y): Wd (l++Y):=λx hx=>by
 rcases List.mem_append.1 hx with h1|h1
 ·exact h x h1
 exact a x h1
theorem Wd.zeros: Wd (List.replicate i 0):=λx hx=>by have:=uc hx;omega
theorem DN(h:l.length<=N): l.getD N 0=0:=by simp[List.getD,h]
theorem N1{Z:List Nat}{i:Nat}(b:i<Z.length)(a:Zw Z+4294967296 ^ i*(j+Zw (Y.drop i))=T):
  Zw (Z.set i ((Z.getD i 0+Y.getD i 0+j)%4294967296))+4294967296 ^ (i+1)*((Z.getD i 0+Y.getD i 0+j)/4294967296+Zw (Y.drop (i+1)))=T:=by
 have h1:=Au Z i ((Z.getD i 0+Y.getD i 0+j)%4294967296) b;rw[Ch Y i] at a;have d:=tY (Z.getD i 0+Y.getD i 0+j) 4294967296;generalize (Z.getD i 0+Y.getD i 0+j)/4294967296=q at *
 generalize (Z.getD i 0+Y.getD i 0+j)%4294967296=r at *
 generalize Zw (Y.drop (i+1))=R at *
 rw[iX];generalize 4294967296 ^ i=B at *
 have e:B*r+B*(4294967296*q)=B*Z.getD i 0+B*Y.getD i 0+B*j:=by rw[<-fI, <-fI, <-fI, <-d];congr 1;omega
 simp only[fI,gE] at *
 omega
theorem gu(f:N<l.length)(e:Zw l+t=h+4294967296 ^ N*(j+Zw (Y.drop N)))(hd:T+Y.getD N 0+j=l.getD N 0+4294967296*U):
  Zw (l.set N T)+t=h+4294967296 ^ (N+1)*(U+Zw (Y.drop (N+1))):=by
 have h1:=Au l N T f;rw[Ch Y N] at e;generalize Zw (Y.drop (N+1))=R at *
 generalize b:4294967296 ^ N=B at *
 have g:B*T+B*Y.getD N 0+B*j=B*l.getD N 0+B*(4294967296*U):=by rw[<-fI, <-fI, <-fI,hd]
 rw[iX,b];simp only[fI,gE] at *
 omega
theorem oa{c:Nat}(hw:Wd l)(hl:l.length=N)(hle:U<=T)(a:Zw l+U=T+4294967296 ^ N*c): Zw l=T-U:=by
 have h1:=Vu hw;rw[hl] at h1;rcases oX c with h|h
 ·subst h;omega
 have:=hD (4294967296 ^ N) h;omega
theorem rK{c:Nat}(a:Zw l+4294967296 ^ N*c=T)(hT:T<4294967296 ^ N): Zw l=T:=by
 rcases oX c with h|h
 ·subst h;omega
 have:=hD (4294967296 ^ N) h;omega
theorem iT(e:N+j<l.length)(d:Zw l+4294967296 ^ (N+j)*T+4294967296 ^ (N+j)*(U*Zw (Y.drop j))=h):
  Zw (l.set (N+j) ((T+(U*Y.getD j 0+l.getD (N+j) 0))%4294967296))+4294967296 ^ (N+(j+1))*((T+(U*Y.getD j 0+l.getD (N+j) 0))/4294967296)+4294967296 ^ (N+(j+1))*(U*Zw (Y.drop (j+1)))=h:=by
 have h1:=Au l (N+j) ((T+(U*Y.getD j 0+l.getD (N+j) 0))%4294967296) e;rw[Ch Y j] at d;have a:=tY (T+(U*Y.getD j 0+l.getD (N+j) 0)) 4294967296;generalize hq:(T+(U*Y.getD j 0+l.getD (N+j) 0))/4294967296=q at *
 generalize hr:(T+(U*Y.getD j 0+l.getD (N+j) 0))%4294967296=r at *
 generalize Zw (Y.drop (j+1))=R at *
 rw[show N+(j+1)=(N+j)+1 from rfl,iX];generalize 4294967296 ^ (N+j)=B at *
 have f:B*(4294967296*q)+B*r=B*T+(B*(U*Y.getD j 0)+B*l.getD (N+j) 0):=by rw[<-fI, <-fI, <-fI,a]
 have b:B*4294967296*(U*R)=B*(U*(4294967296*R)):=by rw[gE];congr 1;rw[<-gE, <-gE,kI U]
 rw[b];simp only[fI,gE] at *
 omega
theorem QO(ha:N<4294967296)(e:j<4294967296)(hc:T<4294967296)(hd:U<4294967296): T+(N*j+U)<18446744073709551616:=by
 have:N*j<=4294967295*4294967295:=ka (by omega) (by omega);omega
theorem Vt(hw:Wd l)(i:Nat): Zw (l.take i)<4294967296 ^ i:=by
 have h1:=Vu (hw.take i);have a:4294967296 ^ (l.take i).length<=4294967296 ^ i:=js (by omega) (by simp;omega);omega
theorem Dp{m:Nat}(h:Zw l<4294967296 ^ m)(hj:m<=j): l.getD j 0=0:=by
 rcases oX (l.getD j 0) with a|a
 ·exact a
 exfalso;have hl:j<l.length:=by
  rcases el j l.length with h1|h1
  ·exact h1
  have:=DN h1;omega
 have h1:=Au l j 0 hl;have b:4294967296 ^ m<=4294967296 ^ j:=js (by omega) hj;have c:=hD (4294967296 ^ j) a;omega
def ed(n m:Nat): Int:=if n<m then -1 else if m<n then 1 else 0
theorem D9{n m:Nat}(h:(wds n).length<(wds m).length): n<m:=by
 have h1:=Vu (Wd.wds n);rw[Ja] at h1;have a:wds m≠[]:=λe=>by rw[e] at h;simp at h
 have b:=Ja m;rw[<-u3 a,Jy] at b;have f:=Io _ a;simp only[Zw,vB,vN,sh] at b;have c:4294967296 ^ (wds n).length<=4294967296 ^ ((wds m).length-1):=js (by omega) (by omega);have d:4294967296 ^ ((wds m).length-1)*1<=4294967296 ^ ((wds m).length-1)*(wds m).getLast a:=hD _ (by omega);omega
theorem SY(f:Wd l)(g:Wd Y)(d:l.getD N 0<Y.getD N 0)(hd:l.drop (N+1)=Y.drop (N+1)): Zw l<Zw Y:=by
 have hs:∀h:List Nat,N<h.length->Zw h=Zw (h.take N)+4294967296 ^ N*(h.getD N 0+4294967296*Zw (h.drop (N+1))):=λh hl=>by
  conv=>lhs;rw[<-ls N h,Jy]
  rw[Ch h N];simp[sp (tI hl)]
 have c:N<Y.length:=by
  rcases el N Y.length with h1|h1
  ·exact h1
  have:=DN h1;omega
 have h1:=Vt f N;rw[hs Y c];have a:Zw l<=Zw (l.take N)+4294967296 ^ N*(l.getD N 0+4294967296*Zw (l.drop (N+1))):=by
  rcases el N l.length with b|b
  ·exact uz (hs l b)
  rw[wJ b];omega
 rw[hd] at a;have e:=hD (4294967296 ^ N) (show l.getD N 0+4294967296*Zw (Y.drop (N+1))+1<=Y.getD N 0+4294967296*Zw (Y.drop (N+1)) by omega);rw[fI] at e;omega
theorem drop_step(hl:l.length=Y.length)(a:N<l.length)(he:l.getD N 0=Y.getD N 0)(hd:l.drop (N+1)=Y.drop (N+1)): l.drop N=Y.drop N:=by
 rw[oF a,oF (by omega:N<Y.length),hd];congr 1;simpa [List.getD,a,(by omega:N<Y.length)] using he
theorem AG(hz:i<4294967296): i.testBit 31=decide (2147483648<=i):=by
 rw[Nat.testBit_eq_decide_div_mod_eq];have e:(2:Nat) ^ 31=2147483648:=by decide
 rw[e];apply decide_eq_decide.2;omega
theorem shr31(hz:i<4294967296): i/2 ^ 31=if i.testBit 31 then 1 else 0:=by
 rw[AG i hz];have e:(2:Nat) ^ 31=2147483648:=by decide
 rw[e];by_cases h:2147483648<=i<;>simp[h]<;>omega
theorem U9(hx:i<4294967296)(c:k<4294967296)(m:o<=1):
  (((4294967295-i) &&& k) ||| ((4294967295-(i ^^^ k)) &&& ((i+8589934592-k-o)%4294967296)))/2 ^ 31=if i<k+o then 1 else 0:=by
 have e:i ^^^ k<4294967296:=vF (n:=32) hx c;generalize hd:(i+8589934592-k-o)%4294967296=d;have a:d<4294967296:=by omega
 have h1:((4294967295-i) &&& k)<2 ^ 32:=gO vk c;have l:((4294967295-(i ^^^ k)) &&& d)<2 ^ 32:=gO vk a;rw[shr31 _ (Nat.or_lt_two_pow h1 l)];rw[Nat.testBit_or,Nat.testBit_and,Nat.testBit_and,AG (4294967295-i) (by omega),AG k c,AG (4294967295-(i ^^^ k)) (by omega),AG d a];have t:decide (2147483648<=4294967295-(i ^^^ k)) = !(i ^^^ k).testBit 31:=by
  rw[AG _ e];by_cases h:2147483648<=i ^^^ k
  ·rw[decide_eq_true h];simp;omega
  rw[decide_eq_false h];simp;omega
 rw[t,Nat.testBit_xor,AG i hx,AG k c];by_cases u:2147483648<=i<;>by_cases j:2147483648<=k<;>by_cases f:2147483648<=d<;>by_cases g:i<k+o<;>
  simp[u,j,f,g]<;>omega
theorem XZ(hx:i<4294967296)(a:k<4294967296)(c:o<=1):
  (i+8589934592-k-o)%4294967296+k+o=i+4294967296*(if i<k+o then 1 else 0):=by
 split<;>omega
theorem add_lt(a:Wd l)(b:Wd Y)(hl:Y.length<=l.length): Zw l+Zw Y<4294967296 ^ (l.length+1):=by
 have h1:=Vu a;have c:=Vu b;have d:4294967296 ^ Y.length<=4294967296 ^ l.length:=js (by omega) hl;rw[iX];omega
theorem IC: decide (ed N j<0)=decide (N<j):=by
 unfold ed;apply decide_eq_decide.2;split
 ·simp[*]
 split<;>simp[*]
theorem Ae(h:N*j<18446744073709551616): IntKind.u64.wrap ((N:Int)*(j:Int))=((N*j:Nat):Int):=by
 rw[<-tD];generalize N*j=c at *
 exact wrap_u64 _ (by omega) (by omega)
theorem Gi(h:N+j<18446744073709551616): IntKind.u64.wrap ((N:Int)+(j:Int))=((N+j:Nat):Int):=by
 rw[<-Int.natCast_add];exact wrap_u64 _ (by omega) (by omega)
theorem Aw{a b:Nat}(ha:a<4294967296)(c:b<4294967296): a*b<=18446744065119617025:=by
 have:a*b<=4294967295*4294967295:=ka (by omega) (by omega);omega
theorem mul64_hi(hx:i<18446744073709551616)(h:k<18446744073709551616):
  (i/4294967296*(k%4294967296)+i%4294967296*(k%4294967296)/4294967296<18446744073709551616) /\
  ((i/4294967296*(k%4294967296)+i%4294967296*(k%4294967296)/4294967296)%4294967296+i%4294967296*(k/4294967296)<18446744073709551616) /\
  (i/4294967296*(k/4294967296)+(i/4294967296*(k%4294967296)+i%4294967296*(k%4294967296)/4294967296)/4294967296 +
   ((i/4294967296*(k%4294967296)+i%4294967296*(k%4294967296)/4294967296)%4294967296+i%4294967296*(k/4294967296))/4294967296=i*k/18446744073709551616):=by
 have e:i*k=i/4294967296*(k/4294967296)*18446744073709551616+(i/4294967296*(k%4294967296)+i%4294967296*(k/4294967296))*4294967296+i%4294967296*(k%4294967296):=by
  have c:=tY i 4294967296;have d:=tY k 4294967296;generalize i/4294967296=x1 at *
  generalize i%4294967296=x0 at *
  generalize k/4294967296=y1 at *
  generalize k%4294967296=y0 at *
  subst c d;have:(4294967296*x1+x0)*(4294967296*y1+y0)=4294967296*4294967296*(x1*y1)+4294967296*(x1*y0)+4294967296*(x0*y1)+x0*y0:=by
   rw[dk,fI,fI];have f:4294967296*x1*(4294967296*y1)=4294967296*4294967296*(x1*y1):=by rw[Nat.mul_mul_mul_comm]
   have a2:4294967296*x1*y0=4294967296*(x1*y0):=gE _ _ _;have a3:x0*(4294967296*y1)=4294967296*(x0*y1):=tL _ _ _;rw[f,a2,a3];omega
  rw[this];omega
 have g:=Aw (a:=i/4294967296) (b:=k/4294967296) (by omega) (by omega);have l:=Aw (a:=i/4294967296) (b:=k%4294967296) (by omega) (by omega);have o:=Aw (a:=i%4294967296) (b:=k/4294967296) (by omega) (by omega);have j:=Aw (a:=i%4294967296) (b:=k%4294967296) (by omega) (by omega);rw[e];generalize i/4294967296*(k/4294967296)=p at *
 generalize i/4294967296*(k%4294967296)=q at *
 generalize i%4294967296*(k/4294967296)=r at *
 generalize i%4294967296*(k%4294967296)=s at *
 refine⟨?_,?_,?_⟩<;>omega
theorem JK(h:N≠j): (l.set N T).getD j 0=l.getD j 0:=by
 simp[List.getD,List.getElem?_set,h]
theorem pow32: 4294967296 ^ i=2 ^ (32*i):=by rw[vY]
theorem Jg(h:i<f.length): Zw (f.take (i+1))=Zw (f.take i)+4294967296 ^ i*f.getD i 0:=by
 rw[pow32];exact EJ f i h
theorem K6(a:Wd l)(c:Wd Y)(b:Zw Z=Zw (l.take N)*Zw Y)(hj:N+Y.length<=j): Z.getD j 0=0:=by
 refine Dp (m:=N+Y.length) ?_ hj;rw[b,tq];exact kv (Vt a N) (Vu c)
theorem Rw(b:N<l.length)(hl:N+Y.length<Z.length)(d:Z.getD (N+Y.length) 0=0)(a:Zw Z+4294967296 ^ (N+Y.length)*j+4294967296 ^ (N+Y.length)*(l.getD N 0*Zw (Y.drop Y.length))=Zw (l.take N)*Zw Y+4294967296 ^ N*(l.getD N 0*Zw Y)):
  Zw (Z.set (N+Y.length) j)=Zw (l.take (N+1))*Zw Y:=by
 have h1:=Au Z (N+Y.length) j hl;rw[d] at h1;rw[tf] at a;simp only[Zw,vN,sh] at a h1;rw[h1,a,Jg l N b,dk,gE]
end Go.Fx
namespace Go.Fx
open Go
variable{d i l T r k j:Nat}{O Z:List Nat}(p W h:List Nat)(x s b:Nat)
theorem Fj(h:i<4294967296): IntKind.u32.wrap (i:Int)=(i:Int):=wrap_u32 _ (by omega) (by omega)
theorem Fi(h:i<18446744073709551616): IntKind.u64.wrap (i:Int)=(i:Int):=wrap_u64 _ (by omega) (by omega)
theorem GH(h:i<Z.length): (Z.set i k).drop i=k::Z.drop (i+1):=by
 rw[List.drop_set];simp;rw[oF h];rfl
theorem VM(hk:0<i)(a:i<=Z.length)(hl:O.length=Z.length)(hT:Zw (Z.drop i)=Zw (O.drop i)*k+r):
  Zw (Z.drop (i-1))=Zw ((O.set (i-1) ((r*4294967296+Z.getD (i-1) 0)/k)).drop (i-1))*k+(r*4294967296+Z.getD (i-1) 0)%k:=by
 rw[Ch Z (i-1),GH (by omega),tF hk,hT,Zw];have h:=tY (r*4294967296+Z.getD (i-1) 0) k;generalize (r*4294967296+Z.getD (i-1) 0)/k=q at *
 generalize (r*4294967296+Z.getD (i-1) 0)%k=m at *
 generalize Zw (O.drop i)=V at *
 rw[dk,fI,gE,kI q k];omega
theorem IQ(hr:i<r)(hx:k<4294967296): (i*4294967296+k)/r<4294967296:=by
 refine tJ ?_;have:=cc 4294967296 (show i+1<=r from hr);omega
theorem GY(hs:x<32): 4294967296=2 ^ (32-x)*2 ^ x:=by
 rw[<-tq,tF (by omega)]
theorem Q5(hs:s<32): x*2 ^ s%4294967296=(x%2 ^ (32-s))*2 ^ s:=by
 rw[GY s hs,wO]
theorem shl_or(hs:s<32)(hc:b<2 ^ s): (x*2 ^ s%4294967296) ||| b=x*2 ^ s%4294967296+b:=by
 rw[Q5 x s hs];have h:=tj hc (x%2 ^ (32-s));rw[ux] at h;exact h.symm
theorem YG(hs:s<32)(hc:b<2 ^ s): x*2 ^ s%4294967296+b<4294967296:=by
 rw[Q5 x s hs];have h1:x%2 ^ (32-s)+1<=2 ^ (32-s):=gF _ (tp (by omega));have a:=cc (2 ^ s) h1;rw[<-GY s hs,dk] at a;omega
theorem YH(hs:s<32)(hx:x<4294967296): x*2 ^ s/4294967296<2 ^ s:=by
 refine tJ ?_;exact uo hx (tp (by omega))
theorem Tx(hs:x<32): 2 ^ x<=2147483648:=by
 have:2 ^ x<=2 ^ 31:=js (by omega) (by omega);omega
theorem VN(a:i<Z.length)(hl:O.length=Z.length+1)(hz:O.getD i 0=0)(hT:Zw O+4294967296 ^ i*k=Zw (Z.take i)*2 ^ r):
  Zw (O.set i (Z.getD i 0*2 ^ r%4294967296+k))+4294967296 ^ (i+1)*(Z.getD i 0*2 ^ r/4294967296)=Zw (Z.take (i+1))*2 ^ r:=by
 have h1:=Au O i (Z.getD i 0*2 ^ r%4294967296+k) (by omega);rw[hz] at h1;rw[Jg Z i a,dk, <-hT,gE,iX,gE];have b:=tY (Z.getD i 0*2 ^ r) 4294967296;have d:4294967296 ^ i*(4294967296*(Z.getD i 0*2 ^ r/4294967296))+4294967296 ^ i*(Z.getD i 0*2 ^ r%4294967296)=4294967296 ^ i*(Z.getD i 0*2 ^ r):=by rw[<-fI,b]
 rw[fI] at h1;omega
theorem YI(hl:O.length=Z.length+1)(hz:O.getD Z.length 0=0)(hT:Zw O+4294967296 ^ Z.length*i=Zw (Z.take Z.length)*2 ^ k):
  Zw (O.set Z.length i)=Zw Z*2 ^ k:=by
 have h1:=Au O Z.length i (by omega);rw[w9] at hT;rw[hz] at h1;omega
theorem bZ(hx:x<4294967296): (x/2 ^ 1) ||| (s*2 ^ 31%4294967296)=x/2+2147483648*(s%2):=by
 have e:s*2 ^ 31%4294967296=(s%2)*2 ^ 31:=Q5 s 31 (by omega);rw[e];have h:=tj (show x/2<2 ^ 31 by omega) (s%2);rw[ux] at h;rw[Nat.pow_one,wQ, <-h];omega
theorem cd(a:i<Z.length)(hl:O.length=Z.length)(hd:O.drop i=Z.drop i)(hT:2*Zw (O.take i)+k=Zw (Z.take i)+4294967296 ^ i*(Z.getD i 0%2)):
  2*Zw ((O.set i (Z.getD i 0/2+2147483648*(Z.getD (i+1) 0%2))).take (i+1))+k=Zw (Z.take (i+1))+4294967296 ^ (i+1)*(Z.getD (i+1) 0%2):=by
 rw[Jg _ i (by simp;omega),Jg Z i a,wX (aZ _)];have e:(O.set i (Z.getD i 0/2+2147483648*(Z.getD (i+1) 0%2))).getD i 0=Z.getD i 0/2+2147483648*(Z.getD (i+1) 0%2):=by
  simp[List.getD,hl,a]
 rw[e,iX,gE];have b:2*(4294967296 ^ i*(Z.getD i 0/2+2147483648*(Z.getD (i+1) 0%2)))+4294967296 ^ i*(Z.getD i 0%2)=4294967296 ^ i*Z.getD i 0+4294967296 ^ i*(4294967296*(Z.getD (i+1) 0%2)):=by
  rw[tL, <-fI, <-fI];congr 1;omega
 omega
theorem jH(hr:i<=1)(hl:O.length=Z.length)(hT:2*Zw (O.take Z.length)+i=Zw (Z.take Z.length)+4294967296 ^ Z.length*(Z.getD Z.length 0%2)): Zw O=Zw Z/2:=by
 rw[DN (aZ _), <-hl,w9,hl,w9] at hT;omega
theorem aK(e:i<O.length)(b:i<Z.length)(hT:Zw Z+d*Zw (O.take i)=l+4294967296 ^ i*(k+r))(hd:j+(k+d*O.getD i 0)%4294967296+r=Z.getD i 0+4294967296*T):
  Zw (Z.set i j)+d*Zw (O.take (i+1))=l+4294967296 ^ (i+1)*((k+d*O.getD i 0)/4294967296+T):=by
 have h1:=Au Z i j b;have h:=tY (k+d*O.getD i 0) 4294967296;rw[Jg O i e,iX,fI];generalize hq:(k+d*O.getD i 0)/4294967296=q at *
 generalize hm:(k+d*O.getD i 0)%4294967296=m at *
 rw[tL d];generalize f:4294967296 ^ i=P at *
 have a:P*j+P*(k+d*O.getD i 0)+P*r=P*Z.getD i 0+P*(4294967296*(q+T)):=by
  rw[<-fI, <-fI, <-fI];congr 1;omega
 rw[fI P k] at a;rw[fI P k] at hT;rw[gE P 4294967296];omega
theorem jc(a:O.length<Z.length)(hT:Zw Z+r*Zw (O.take O.length)=T+4294967296 ^ O.length*(i+k))(hd:d+i+k=Z.getD O.length 0+4294967296*j):
  Zw (Z.set O.length d)+r*Zw O=T+4294967296 ^ (O.length+1)*j:=by
 have h1:=Au Z O.length d a;rw[w9] at hT;rw[iX,gE];have b:4294967296 ^ O.length*d+4294967296 ^ O.length*(i+k)=4294967296 ^ O.length*Z.getD O.length 0+4294967296 ^ O.length*(4294967296*j):=by
  rw[<-fI, <-fI];congr 1;omega
 omega
theorem V8(hc:i<4294967296)(hd:k<4294967296)(hw:r<4294967296): i+k*r<18446744073709551616/\(i+k*r)/4294967296<4294967296:=by
 have:=Aw hd hw;omega
theorem CX(a:x<W.length): (p++W++h).getD (p.length+x) 0=W.getD x 0:=by
 rw[cv];have b:¬p.length+x<p.length:=by omega
 simp[List.getD,a,List.getElem?_append,b]
theorem set_mid(a:x<W.length): (p++W++h).set (p.length+x) s=p++W.set x s++h:=by
 rw[cv,uU _ _ (by omega),cv];simp[wg,a]
theorem H8(h:Z.drop i=O.drop i)(hj:i<=k): Z.getD k 0=O.getD k 0:=by
 have e:∀l:List Nat,l.getD k 0=(l.drop i).getD (k-i) 0:=λl=>by
  simp[List.getD,List.getElem?_drop,Nat.add_sub_cancel' hj]
 rw[e Z,e O,h]
theorem Na(h:i<Z.length): (Z.set i k).getD i 0=k:=by simp[List.getD,h]
theorem NF(h:Z.drop i=O.drop i): (Z.set i k).drop (i+1)=O.drop (i+1):=by
 have e:∀l:List Nat,l.drop (i+1)=(l.drop i).drop 1:=λl=>by rw[ug]
 rw[w5 (by omega),e Z,e O,h]
def Dg(n:Nat): Nat:=if n=0 then 0 else Nat.log2 n+1
theorem bj: x<2 ^ Dg x:=by
 unfold Dg;split
 ·simp[*]
 exact Nat.lt_log2_self
theorem RO(h:i≠0): 2 ^ (Dg i-1)<=i:=by
 unfold Dg;rw[if_neg h,vH];exact Nat.log2_self_le h
theorem qb(h1:2 ^ k<=i)(b:i<2 ^ (k+1)): Dg i=k+1:=by
 have a:i≠0:=by have:=tp (n:=k) (show 0<2 by omega);omega
 unfold Dg;rw[if_neg a,(Nat.log2_eq_iff a).2 ⟨h1,b⟩]
theorem LN(h:2 ^ k<=i): Dg (i/2 ^ k)+k=Dg i:=by
 have a:0<2 ^ k:=tp (by omega);have b:i/2 ^ k≠0:=by
  have:=Nat.div_le_div_right (c:=2 ^ k) h;rw[Nat.div_self a] at this;omega
 have h1:=RO b;have e:=bj (i/2 ^ k);have g:0<Dg (i/2 ^ k):=by unfold Dg;rw[if_neg b];omega
 generalize Dg (i/2 ^ k)=L at *
 have d:2 ^ (L-1+k)<=i:=by
  rw[tq];exact bp (cc _ h1) (Nat.div_mul_le_self i (2 ^ k))
 have f:i<2 ^ (L-1+k+1):=by
  rw[show L-1+k+1=L+k by omega,tq];exact(wP a).1 e
 rw[qb d f];omega
theorem Hm(h:i<2 ^ k): Dg i<=k:=by
 by_cases b:i=0
 ·subst b;simp[Dg]
 have h1:=RO b;have c:2 ^ (Dg i-1)<2 ^ k:=gO h1 h;have:=(wq (a:=2) (by omega)).1 c;omega
end Go.Fx
namespace Go.Fx
open Go
variable{M e b o R s m p:Nat}{c W Q l f:List Nat}
theorem Oh(h:l.length=e+2): Zw l=(4294967296*l.getD (e+1) 0+l.getD e 0)*4294967296 ^ e+Zw (l.take e):=by
 have h1:l.take (e+2)=l:=by rw[<-h,w9]
 have a:=Jg l (e+1) (by omega);have b:=Jg l e (by omega);rw[h1] at a;rw[a,b,iX];generalize 4294967296 ^ e=P;generalize l.getD (e+1) 0=x;generalize l.getD e 0=z;rw[dk,kI z P,gE P,kI P (4294967296*x)];omega
theorem XN(h:l.length=e+3): Zw l=(4294967296*(4294967296*l.getD (e+2) 0+l.getD (e+1) 0)+l.getD e 0)*4294967296 ^ e+Zw (l.take e):=by
 have h1:l.take (e+3)=l:=by rw[<-h,w9]
 have a:=Jg l (e+2) (by omega);have b:=Oh (l:=l.take (e+2)) (e:=e) (by simp;omega);rw[h1] at a;have g1:(l.take (e+2)).getD (e+1) 0=l.getD (e+1) 0:=by simp[List.getD]
 have g2:(l.take (e+2)).getD e 0=l.getD e 0:=by simp[List.getD,show e<e+2 by omega]
 have g3:(l.take (e+2)).take e=l.take e:=by rw[List.take_take];congr 1;omega
 rw[g1,g2,g3] at b;rw[a,b,iX,iX];generalize 4294967296 ^ e=P;generalize l.getD (e+2) 0=x;generalize l.getD (e+1) 0=y;generalize l.getD e 0=z;rw[gE (P*4294967296),gE P,kI P (4294967296*(4294967296*x)), <-Nat.add_right_comm, <-dk];congr 2;omega
section
variable{U VV P top v1 v2 w0 lu lv dg rest:Nat}
theorem Wq(f:U=(4294967296*top+w0)*P+lu)(c:VV=(4294967296*v1+v2)*P+lv)(hw:w0<4294967296)(d:lu<P)(a:0<v1): U<(top/v1+1)*VV:=by
 have h1:top+1<=(top/v1+1)*v1:=by rw[kI];exact Nat.lt_mul_div_succ top a
 generalize top/v1+1=D at *
 have e:U+1<=4294967296*(D*v1)*P:=by
  have:=cc P (show 4294967296*top+w0+1<=4294967296*(D*v1) by omega);rw[dk (4294967296*top+w0)] at this;omega
 have b:D*((4294967296*v1)*P)<=D*VV:=hD _ (by rw[c,dk,gT];exact tu _ _);rw[<-gE,tL] at b;omega
theorem top_lt(d:U=(4294967296*top+w0)*P+lu)(g:VV=(4294967296*v1+v2)*P+lv)(a:v2<4294967296)(c:lv<P)(b:U<4294967296*VV): top<4294967296*(v1+1):=by
 refine vT λh=>?_;have h1:VV+1<=4294967296*(v1+1)*P:=by
  have:=cc P (show 4294967296*v1+v2+1<=4294967296*(v1+1) by omega);rw[dk (4294967296*v1+v2)] at this;omega
 have e:=cc P h;have f:4294967296*(top*P)<=U:=by rw[d,dk, <-gE,gT];exact tu _ _
 omega
theorem cg(g:U=(4294967296*top+w0)*P+lu)(d:VV=(4294967296*v1+v2)*P+lv)(e:lu<P)(b:dg*v1+rest=top)(a:U<4294967296*VV)(hc:4294967296<=dg\/4294967296*rest+w0<dg*v2): U<dg*VV:=by
 rcases hc with hc|hc
 ·have:=cc VV hc;omega
 have h1:4294967296*top+w0+1<=dg*(4294967296*v1+v2):=by
  rw[fI,tL, <-b];omega
 have c:=cc P h1;rw[dk (4294967296*top+w0),gE] at c;have f:dg*((4294967296*v1+v2)*P)<=dg*VV:=hD _ (by rw[d];exact tu _ _);omega
theorem Pm(k:U=(4294967296*top+w0)*P+lu)(l:VV=(4294967296*v1+v2)*P+lv)(g:0<v1)(e:v2<4294967296)(b:lv<P)(f:dg*v1+rest=top)(c:dg<=4294967296)(hc:4294967296<=rest\/dg*v2<=4294967296*rest+w0): dg*VV<=U+VV:=by
 rcases hc with hc|hc
 ·have h1:VV<=(4294967296*(v1+1))*P:=by
   have:=cc P (show 4294967296*v1+v2+1<=4294967296*(v1+1) by omega);rw[dk (4294967296*v1+v2)] at this;omega
  have a:dg*(4294967296*(v1+1))<=4294967296*top:=by
   rw[tL,fI];omega
  have j:=hD dg h1;have d:=cc P a;rw[gE] at d;have i:4294967296*top*P<=U:=by rw[k,dk,gT];exact tu _ _
  omega
 have h1:dg*(4294967296*v1+v2)<=4294967296*top+w0:=by
  rw[fI,tL, <-f];omega
 have a:=cc P h1;rw[gE] at a;have j:dg*lv<=4294967296*P:=ka c (tI b);have d:4294967296*P<=VV:=by
  have h:4294967296<=4294967296*v1+v2:=by omega
  have:=cc P h;omega
 have i:dg*VV=dg*((4294967296*v1+v2)*P)+dg*lv:=by rw[l,fI]
 omega
theorem So(a:dg*v1+rest=top)(ht:top<4294967296*(v1+1))(hr:4294967296<=rest): dg<4294967296:=by
 refine vT λh=>?_;have:=cc v1 h;omega
theorem kf(a:dg*v1+rest=top)(ht:top<4294967296*(v1+1))(hv:2147483648<=v1): dg<=4294967297:=by
 refine uy λh=>?_;have:=cc v1 (show 4294967298<=dg by omega);omega
end
theorem jm(hR:R+m*s=e+M*o)(b:R<M)(hl:o<=1)(h1:e<(m+1)*s)(c:¬0<o): R+m*s=e/\R<s:=by
 have:o=0:=by omega
 subst this;rw[dk] at h1;omega
theorem Wh(hR:R+m*s=e+M*o)(hl:o<=1)(c:R<M)(hd:m*s<=e+s)(r:s<=M)(i:0<o)(j:b+M*p=R+s)(f:b<M):
  0<m/\b+(m-1)*s=e/\b<s:=by
 have:o=1:=by omega
 subst this;have g:0<m:=by
  rcases oX m with h|h
  ·subst h;omega
  exact h
 obtain ⟨d,rfl⟩:∃d,m=d+1:=⟨m-1,by omega⟩
 rw[dk] at hR hd;have hc:p=1:=by
  rcases vO p 1 with h|h|h
  ·have:p=0:=by omega
   subst this;omega
  ·exact h
  have:=hD M (show 2<=p by omega);omega
 subst hc;refine⟨by omega,?_,?_⟩
 ·rw[vH];omega
 omega
theorem am(d:c.length=W.length)(g:l.length<Q.length)(hT:Zw (l++W++f)+4294967296 ^ (l.length+1)*(e*Zw (Q.drop (l.length+1)))=R)(hd:Zw c+s*e=Zw W):
  Zw (l++c++f)+4294967296 ^ l.length*(e*Zw ((Q.set l.length s).drop l.length))=R:=by
 rw[GH g,Zw, <-hT];simp only[cv,Jy,d,iX, <-hd];generalize 4294967296 ^ l.length=B;generalize 4294967296 ^ W.length*Zw f=H;generalize Zw (Q.drop (l.length+1))=q;simp only[fI];rw[kI e s,tL e 4294967296, <-gE B 4294967296];omega
theorem ao(b:Zw c=0)(a:Zw W<e): Zw ((l++W++c).drop l.length)<e:=by
 rw[cv,List.drop_left,Jy,b];simpa using a
theorem RF{k n:Nat}(a:Wd l)(hl:k+n+1<=l.length)(i:R<4294967296 ^ n)(f:Zw (l.drop (k+1))<R):
  ∃p W b,l=p++W++b/\p.length=k/\W.length=n+1/\Wd p/\Wd W/\Wd b/\Zw b=0/\Zw W<4294967296*R:=by
 have e:l=l.take k++(l.drop k).take (n+1)++l.drop (k+n+1):=by
  rw[cv];conv=>lhs;rw[<-ls k l]
  congr 1;conv=>lhs;rw[<-ls (n+1) (l.drop k)]
  rw[ug];rfl
 have h1:Zw (l.drop (k+1))=Zw ((l.drop (k+1)).take n)+4294967296 ^ n*Zw (l.drop (k+n+1)):=by
  conv=>lhs;rw[<-ls n (l.drop (k+1))]
  rw[Jy,ug,show(k+1)+n=k+n+1 by omega];rw[show((l.drop (k+1)).take n).length=n by simp;omega]
 have d:Zw (l.drop (k+n+1))=0:=by
  rcases oX (Zw (l.drop (k+n+1))) with h|h
  ·exact h
  have:=hD (4294967296 ^ n) h;omega
 have g:Zw (l.drop k)=Zw ((l.drop k).take (n+1)):=by
  conv=>lhs;rw[<-ls (n+1) (l.drop k)]
  rw[Jy,ug,show k+(n+1)=k+n+1 by omega,d];simp
 refine⟨_,_,_,e,by simp;omega,by simp;omega,a.take _,(a.drop _).take _,a.drop _,d,?_⟩;rw[<-g,Ch l k];have:=a.getD k;omega
theorem V6(g:Wd l)(i:Zw W=Zw l*2 ^ s)(a:4294967296 ^ (M-1)<=e)(j:0<M)(h:R+M=l.length+1): Zw (W.drop R)<e*2 ^ s:=by
 have h1:=Vu g;have c:Zw W=Zw (W.take R)+4294967296 ^ (W.take R).length*Zw (W.drop R):=by
  conv=>lhs;rw[<-ls R W,Jy]
 rcases el W.length R with f|f
 ·rw[th (by omega)];exact uZ (gN (tp (by omega)) a) (tp (by omega))
 rw[show(W.take R).length=R by simp;omega] at c;have d:Zw l*2 ^ s<4294967296 ^ l.length*2 ^ s:=uo h1 (tp (by omega));rw[show l.length=R+(M-1) by omega,tq,gE] at d;have m:4294967296 ^ R*Zw (W.drop R)<4294967296 ^ R*(4294967296 ^ (M-1)*2 ^ s):=by omega
 have b:=(Nat.mul_lt_mul_left (tp (n:=R) (show 0<4294967296 by omega))).1 m;exact gN b (cc _ a)
theorem ar{last:Nat}(a:last≠0)(h1:last<4294967296)(hs:s=32-Dg last): s<32/\2147483648<=last*2 ^ s/\last*2 ^ s<4294967296:=by
 have b:=bj last;have c:=RO a;have d:0<Dg last:=by unfold Dg;rw[if_neg a];omega
 have e:Dg last<=32:=Hm (k:=32) h1;subst hs;refine⟨by omega,?_,?_⟩
 ·have:=cc (2 ^ (32-Dg last)) c;rw[<-tq,show Dg last-1+(32-Dg last)=31 by omega] at this;omega
 have:=uo b (tp (n:=32-Dg last) (show 0<2 by omega));rw[<-tq,show Dg last+(32-Dg last)=32 by omega] at this;omega
theorem OY(A:Wd l)(hl:l.length=e+2)(hs:s<32)(h1:2147483648<=l.getD (e+1) 0*2 ^ s)(f:l.getD (e+1) 0*2 ^ s<4294967296)(c:Wd W)(hv:Zw W=Zw l*2 ^ s): Zw (W.take l.length)=Zw l*2 ^ s/\2147483648<=(W.take l.length).getD (e+1) 0:=by
 have b:0<2 ^ s:=tp (by omega);have p:l.take (e+2)=l:=by rw[<-hl,w9]
 have m:=Jg l (e+1) (by omega);rw[p] at m;have u:=Vt A (e+1);generalize hx:l.getD (e+1) 0=x at *
 have k:(x+1)*2 ^ s<=4294967296:=by
  rw[GY s hs] at f ⊢;exact cc _ ((Nat.mul_lt_mul_right b).1 f)
 have n:Zw l<4294967296 ^ (e+1)*(x+1):=by rw[fI];omega
 have i:Zw W<4294967296 ^ (e+2):=by
  rw[hv];have q:Zw l*2 ^ s<4294967296 ^ (e+1)*(x+1)*2 ^ s:=uo n b;have a2:=hD (4294967296 ^ (e+1)) k;rw[gE] at q;rw[iX];omega
 have g:Zw (W.take (e+2))=Zw W:=Oi (λj hj _=>Dp i hj);refine⟨by rw[hl,g,hv],?_⟩;rw[hl];have o:(W.take (e+2)).getD (e+1) 0=W.getD (e+1) 0:=by simp[List.getD]
 rw[o];refine uy λh=>?_;have r:Zw W<4294967296 ^ (e+1)*(W.getD (e+1) 0+1):=by
  rcases el (e+1) W.length with d|d
  ·have c1:=Jg W (e+1) d;have c2:=Vt c (e+1);rw[<-g,c1,fI];omega
  rw[DN d];have c2:=Vt c (e+1);rw[wJ d] at c2;simpa using c2
 have v:=hD (4294967296 ^ (e+1)) (show W.getD (e+1) 0+1<=2147483648 by omega);have t:=hD (4294967296 ^ (e+1)) h1;have w:4294967296 ^ (e+1)*(x*2 ^ s)<=Zw W:=by rw[hv, <-gE];exact cc _ (by omega)
 omega
theorem or_hi(a b:Nat)(c:b<4294967296): (a*4294967296) ||| b=4294967296*a+b:=by
 have h:=tj (show b<2 ^ 32 from c) a;rw[ux] at h;rw[show a*4294967296=a*2 ^ 32 from rfl, <-h,kI]
theorem V7(hT:e+s*R=M*2 ^ o)(hz:e<s)(hv:s=m*2 ^ o): R=M/m/\e/2 ^ o=M%m:=by
 have a:0<2 ^ o:=tp (by omega);have h1:M*2 ^ o/s=R:=by
  rw[<-hT,uP,Nat.mul_add_div (by omega),vj hz,sh]
 have b:M*2 ^ o%s=e:=by
  rw[<-hT,uP,Nat.mul_add_mod,jg hz]
 subst hv;rw[Nat.mul_div_mul_right _ _ a] at h1;rw[wO] at b;exact⟨h1.symm,by rw[<-b,Nat.mul_div_cancel _ a]⟩
theorem Wp(h:e*s+R=M)(a:0<e): (e-1)*s+(R+s)=M:=by
 obtain ⟨d,rfl⟩:∃d,e=d+1:=⟨e-1,by omega⟩
 rw[vH];rw[dk] at h;omega
end Go.Fx
namespace Go.Fx
open Go
def cellsOf{α:Type}(enc:α->Value)(l:List α): List Value:=l.flatMap λx=>(enc x).cells.toList
variable{α:Type}{enc:α->Value}{k:Nat}
theorem cellsOf_length(hk:∀x,(enc x).cells.size=k)(l:List α): (cellsOf enc l).length=l.length*k:=by
 induction l with
 | nil=>simp[cellsOf]
 | cons x l a =>
  simp only[cellsOf,ub,bd,sm,hk,dc] at a ⊢;rw[a,dk,tt,uP]
theorem Qp(l m:List α): cellsOf enc (l++m)=cellsOf enc l++cellsOf enc m:=by simp[cellsOf]
theorem BA(x:α): cellsOf enc [x]=(enc x).cells.toList:=by simp[cellsOf]
theorem Aq(hk:∀x,(enc x).cells.size=k): ∀(l:List α) (j i:Nat) (h:j<l.length),i<k->(cellsOf enc l)[j*k+i]?=(enc l[j]).cells.toList[i]?
 | [],_,_,h,_=>by simp at h
 | x::l,0,i,_,a=>by
  simp only[cellsOf,ub,tH,ca,wL];rw[List.getElem?_append_left (by simp[hk];exact a)]
 | x::l,j+1,i,h,a=>by
  have b:=Aq hk l j i (by simpa using h) a;simp only[cellsOf,ub,uR] at b ⊢;rw[List.getElem?_append_right (by simp[hk,dk];omega)];simp only[sm,hk];rw[<-b];congr 1;rw[dk];omega
theorem Ap(n:Nat)(x:α): cellsOf enc (List.replicate n x)=CL n (enc x).cells.toList:=by
 simp[cellsOf,CL,List.flatMap_replicate]
theorem PK(hk:∀x,(enc x).cells.size=k)(l:List α)(m:Nat)(h:m<=l.length): (cellsOf enc l).take (m*k)=cellsOf enc (l.take m):=by
 conv=>lhs;rw[<-ls m l,Qp]
 rw[List.take_left' (by rw[cellsOf_length hk];simp[sp h])]
theorem Zh(hk:∀x,(enc x).cells.size=k)(hv:∀x,enc x=.agg (enc x).cells)(l:List α)(d:α)(j:Nat)(h:j<l.length): Zm true k (cellsOf enc l).toArray (j*k)=some (enc (l.getD j d)):=by
 have hle:j*k+k<=(cellsOf enc l).length:=by
  rw[cellsOf_length hk];have:=cc k (show j+1<=l.length from h);rw[dk] at this;omega
 have he:(cellsOf enc l).toArray.extract (j*k) (j*k+k)=(enc (l.getD j d)).cells:=by
  have b:l.getD j d=l[j]:=by simp[List.getD,h]
  rw[b];apply wE
  ·simp[hk];omega
  intro i h1 a;have c:i<k:=by rw[hk] at a;exact a
  have:=Aq hk l j i h c;rw[List.getElem?_eq_getElem (by omega)] at this;simp at this ⊢;rw[Array.getElem?_eq_getElem a] at this;exact tB this
 simp only[Zm,if_true];rw[if_pos (by simpa using hle),he, <-hv]
theorem Ag:∀(ys p q r:List Value),q.length=ys.length->Zp (p++q++r).toArray p.length ys=(p++ys++r).toArray
 | [],p,q,r,h=>by
  have:q=[]:=dn (by simpa using h);subst this;simp[Zp]
 | y::ys,p,[],r,h=>by simp at h
 | y::ys,p,x::q,r,h=>by
  have e:(p++(x::q)++r).toArray.setIfInBounds p.length y=((p++[y])++q++r).toArray:=by
   apply ph;simp[wg]
  rw[Zp,e];have:=Ag ys (p++[y]) q r (by simpa using h);simp only[bd,dc,oT,ca] at this;rw[this];simp
theorem YJ(hk:∀x,(enc x).cells.size=k)(l:List α)(j:Nat)(h:j<l.length)(y:α): Zp (cellsOf enc l).toArray (j*k) (enc y).cells.toList=(cellsOf enc (l.set j y)).toArray:=by
 have b:l=l.take j++[l[j]]++l.drop (j+1):=by simp
 have a:l.set j y=l.take j++[y]++l.drop (j+1):=by
  rw[vK,if_pos h];simp
 have hl:(cellsOf enc (l.take j)).length=j*k:=by rw[cellsOf_length hk];simp[sp (tI h)]
 rw[a];conv=>lhs;rw[b]
 rw[Qp,Qp,Qp,Qp,BA,BA, <-hl];exact Ag _ _ _ _ (by simp[hk])
end Go.Fx
namespace Go.Fx
open Go Go.RowKit
variable{b:List (Nat×Obj)}{s:List Zs}
variable{P:Program}{n:Nat}{S:Nat->Prop}{w0:World}{L:List (Nat×Value)}{σ:List (Nat×Obj)}{Φ:List Zs}{a:Act}{w:World}{K:Act->World->Prop}{Q:Exit->Act->World->Prop}
theorem FH(h:St n S w0 L σ Φ a w)(r:∀k,S k->k<w0.heap.size){d:Option Nat}{x:Operand}{f:FuncId}{fs cs:List Value}{args:Array Operand}{j:Array TypeId}{ty:TypeId}{pos:String}{l:Array Edge}{g:Option (Nat×Bool)}{vs:List Value}{post:Value->List (Nat×Obj)->List Zs->Prop}(hx:Fx.ev L x=some (.func (.func f) fs.toArray cs.toArray))(ha:args.toList.map (Fx.ev L)=vs.map some)(hc:∀args w,(callFunc f args).run P w=.ok (.enter f args) w)(hf:GX P f (fs++vs++cs) b s post)(i:σ.Perm b)(c:∀R∈s,R∈Φ)(hd:∀d',d=some d'->d'<n)(k:∀v σ' Ψ p w',post v σ' Ψ->St n S w0 ((match d with|some d'=>[(d',v)]|none=>[])++L) σ' Ψ p w'->K p w'): (Oper.mk d (.call ⟨.value x,args,j⟩) ty pos l g).wp P a w K Q:=by
 simp only[Oper.wp,Fw h hx ha hc,Oper.upon];have q:St n S w0 L b s a w:=(h.perm i.symm).factsSub c;refine(hf S w0 w r q.mem).mono ?_;rintro e w' ⟨v,σ',Ψ,rfl,m,hm⟩;have o:St n S w0 L σ' Ψ a w':=⟨h.size,h.defers,h.val,hm.ext,hm.own,hm.new,hm.nd,hm.facts⟩
 cases d with
 | none=>exact k v σ' Ψ _ _ m o
 | some d=>exact k v σ' Ψ _ _ m (o.put (hd d rfl) v)
theorem St.same(h:St n S w0 L σ Φ a w){L':List (Nat×Value)}{Φ':List Zs}(h1:L=L')(d:σ=b)(c:Φ=Φ'): St n S w0 L' b Φ' a w:=by
 subst h1;subst d;subst c;exact h
section
variable{α:Type}{enc:α->Value}{k:Nat}
theorem cells_le(hk:∀x,(enc x).cells.size=k)(l:List α)(j:Nat)(h:j<l.length): 0+j*k+k<=(cellsOf enc l).toArray.size:=by
 rw[uq,cellsOf_length hk];have:=cc k (show j+1<=l.length from h);rw[dk] at this;omega
theorem cells_lt(a:0<k)(hk:∀x,(enc x).cells.size=k)(l:List α)(j:Nat)(h:j<l.length): j*k<(cellsOf enc l).length:=by
 rw[cellsOf_length hk];have:=cc k (show j+1<=l.length from h);rw[dk] at this;omega
theorem Bo(hk:∀x,(enc x).cells.size=k)(hv:∀x,enc x=.agg (enc x).cells)(l:List α)(d:α)(j:Nat)(h:j<l.length): Zm true k (cellsOf enc l).toArray (0+j*k)=some (enc (l.getD j d)):=by
 rw[ca];exact Zh hk hv l d j h
theorem Gk(hk:∀x,(enc x).cells.size=k)(l:List α)(j:Nat)(h:j<l.length)(y:α): Zp (cellsOf enc l).toArray (0+j*k) (enc y).cells.toList=(cellsOf enc (l.set j y)).toArray:=by
 rw[ca];exact YJ hk l j h y
end
end Go.Fx
namespace Go.Fx
open Go Go.RowKit
variable{t T C E N X:TypeId}{p G:Array Value}{y x:Operand}{g:Option (Nat×Bool)}{o e:List (Nat×Obj)}{H:List Nat}{z V:Value}{Z:String}{c k l U d m R:Nat}{W:Array Oper}{O:TypeInfo}{Y:Exit->Act->World->Prop}{A:Array Operand}{M J:List Value}{s:FuncId}{F:List Zs}{b:Type}{h:Array Edge}{j:Op}{B:Array TypeId}
variable{ty:TypeId}{pos:String}{aft:Array Edge}
variable{P:Program}{n:Nat}{S:Nat->Prop}{w0:World}{L:List (Nat×Value)}{σ σr:List (Nat×Obj)}{Φ:List Zs}{a:Act}{w:World}{K:Act->World->Prop}{Q:Exit->Act->World->Prop}
def GrowO(k:Nat)(E:TypeId)(v:Value)(m:Nat)(xs:List Value)(o:List (Nat×Obj)): Prop :=
 xs.length=m*k/\((v=.slice none 0 0/\m=0/\o=[]) \/
  (∃b c R,v=.slice (some ⟨b,0,none⟩) m c/\(xs++R).length=c*k/\m<=c/\o=[(b,Obj.cells (xs++R).toArray E (0,0))]))
theorem GrowO.nil(k:Nat)(E:TypeId): GrowO k E (.slice none 0 0) 0 [] []:=⟨by simp,.inl ⟨rfl,rfl,rfl⟩⟩
theorem GrowO.grow(h:GrowO k E z m J o)(σr:List (Nat×Obj)): Grow k E z m J (o++σr) σr:=by
 obtain ⟨h1,⟨rfl,rfl,rfl⟩|⟨b,c,R,rfl,a,d,rfl⟩⟩:=h
 ·exact⟨h1,.inl ⟨rfl,rfl,rfl⟩⟩
 exact⟨h1,.inr ⟨b,c,R,rfl,a,d,rfl⟩⟩
theorem Grow.growO(h:Grow k E z m J o e): ∃g,o=g++e/\GrowO k E z m J g:=by
 obtain ⟨h1,⟨rfl,rfl,rfl⟩|⟨b,c,R,rfl,a,d,rfl⟩⟩:=h
 ·exact⟨[],rfl,h1,.inl ⟨rfl,rfl,rfl⟩⟩
 exact⟨[_],rfl,h1,.inr ⟨b,c,R,rfl,a,d,rfl⟩⟩
theorem GrowO.flat(h:GrowO k E z m J o): Fx.flat z=true:=by
 obtain ⟨_,⟨rfl,_,_⟩|⟨_,_,_,rfl,_⟩⟩:=h<;>rfl
theorem GrowO.is(h:GrowO k E z m J o): ∃ad c,z=.slice ad m c:=by
 obtain ⟨_,⟨rfl,rfl,_⟩|⟨b,c,_,rfl,_⟩⟩:=h
 ·exact⟨_,_,rfl⟩
 exact⟨_,_,rfl⟩
theorem EX(h:St n S w0 L σ Φ a w)(hx:Fx.ev L x=some V)(A:Fx.ev L y=some (.slice (some ⟨k,0,none⟩) R U))(e:σ.Perm ((k,.cells J.toArray E (0,0))::(o++σr)))(G:GrowO d N V c M o)(hT:∀w,(underlying T).run P w=.ok (.slice N) w)(r:∀w,(underlying t).run P w=.ok (.slice C) w)(F:∀w,(typeInfo N).run P w=.ok O w)(hk:∀w,(Go.sizeOf N).run P w=.ok d w)(hz:∀w,(zeroValue N).run P w=.ok z w)(p:z.cells.size=d)(f:d≠0)(B:0<O.bytes)(j:J.length=R*d)(l:J.all flat=true)(q:0<R)(b:O.bytes*(2*(c+R)+192)<=281474976710656)(hd:m<n)(kk:∀v' o' w',GrowO d N v' (c+R) (M++J) o'->St n S w0 ((m,v')::L) (o'++σr) Φ (a.put (some m) v') w'->K (a.put (some m) v') w'):
  (Oper.mk (some m) (.call ⟨.builtin .append,#[x,y],#[T,t]⟩) ty pos aft g).wp P a w K Q :=
 Lz (h.perm e.symm) hx A (G.grow σr) hT r F hk hz p f B j l q b hd λv' σ' w' D hs=>by
  obtain ⟨o',rfl,s⟩:=D.growO;exact kk v' o' w' s hs
theorem Lx(h:St n S w0 L σ Φ a w)(hx:Fx.ev L x=some V)(A:Fx.ev L y=some (.slice (some ⟨k,0,none⟩) R U))(e:σ.Perm ((k,.cells J.toArray E (0,0))::(o++σr)))(G:GrowO d N V c M o)(hT:∀w,(underlying T).run P w=.ok (.slice N) w)(r:∀w,(underlying t).run P w=.ok (.slice C) w)(F:∀w,(typeInfo N).run P w=.ok O w)(hk:∀w,(Go.sizeOf N).run P w=.ok d w)(hz:∀w,(zeroValue N).run P w=.ok z w)(p:z.cells.size=d)(f:d≠0)(B:0<O.bytes)(j:J.length=R*d)(l:J.all flat=true)(q:0<R)(b:O.bytes*(2*(c+R)+192)<=281474976710656)(hd:m<n)(kk:∀v' o' H w',GrowO d N v' (c+R) (M++J) o'->St n S w0 ((m,v')::L) (o'++σr) Φ H w'->K H w'):
  (Oper.mk (some m) (.call ⟨.builtin .append,#[x,y],#[T,t]⟩) ty pos aft g).wp P a w K Q :=
 EX h hx A e G hT r F hk hz p f B j l q b hd λv' o' w' D hs=>kk v' o' _ w' D hs
theorem H6(ho:W[k]?=some ⟨some d,.call ⟨.builtin .append,#[x,y],#[T,t]⟩,X,Z,h,none⟩)(hq:Vo W k H=true)(hx:Fx.ev L x=some V)(F:Fx.ev L y=some (.slice (some ⟨m,0,none⟩) U l))(D:σ.Perm ((m,.cells J.toArray E (0,0))::(o++σr)))(I:GrowO c N V R M o)(hT:∀w,(underlying T).run P w=.ok (.slice N) w)(g:∀w,(underlying t).run P w=.ok (.slice C) w)(G:∀w,(typeInfo N).run P w=.ok O w)(hk:∀w,(Go.sizeOf N).run P w=.ok c w)(hz:∀w,(zeroValue N).run P w=.ok z w)(s:z.cells.size=c)(A:c≠0)(B:0<O.bytes)(p:J.length=U*c)(r:J.all flat=true)(q:0<U)(b:O.bytes*(2*(R+U)+192)<=281474976710656)(hd:d<n)(kk:∀v' o',GrowO c N v' (R+U) (M++J) o'->Head P W n S w0 Y H ((d,v')::L) (o'++σr) Φ): Head P W n S w0 Y (k::H) L σ Φ :=
 .inr (.inl ⟨_,ho,hq,λa w u e=>Js ho (EX (σr:=σr++u) e hx F
  ((List.perm_append_comm.trans (D.append_right u)).trans (by rw[gH,cv])) I hT g G hk hz s A B p r q b hd λv' o' w' j hs =>
   ⟨⟨λhe=>by simp[early] at he,λ_ _ _ _ he=>by cases he⟩,v',o'++σr,Φ,rfl,hs.perm (by rw[<-cv o' σr u];exact uV),kk v' o' j⟩)⟩)
theorem Bf{fs cs:List Value}{vs:List Value}{post:Value->List Zs->Prop}(ho:W[k]?=some ⟨some m,.call ⟨.value x,A,B⟩,E,Z,h,none⟩)(hq:Vo W k H=true)(hx:Fx.ev L x=some (.func (.func s) fs.toArray cs.toArray))(ha:A.toList.map (Fx.ev L)=vs.map some)(hc:∀A w,(callFunc s A).run P w=.ok (.enter s A) w)(hf:Ctr P s (fs++vs++cs) F post)(c:∀R∈F,R∈Φ)(hd:m<n)(t:∀v Ψ,post v Ψ->Head P W n S w0 Y H ((m,v)::L) σ (Ψ++Φ)): Head P W n S w0 Y (k::H) L σ Φ :=
 .inr (.inl ⟨_,ho,hq,λa w r b=>Js ho (by
  obtain ⟨X,h1,p,l,j⟩:=b.facts;simp only[Oper.wp,Fw b hx ha hc,Oper.upon];refine(hf X w l (λR hR=>j R (c R hR))).mono ?_;rintro e w' ⟨v,Ψ,rfl,o,u,q⟩;exact⟨⟨λ_=>u,λ_ _ _ _ he=>by cases he⟩,v,σ,Ψ++Φ,rfl,(b.called u h1 p l j q).put hd v,t v Ψ o⟩)⟩)
theorem Gf{fs cs:List Value}{vs:List Value}(ho:W[k]?=some ⟨some m,.call ⟨.value x,A,B⟩,E,Z,h,none⟩)(hq:Vo W k H=true)(hx:Fx.ev L x=some (.func (.func s) fs.toArray cs.toArray))(ha:A.toList.map (Fx.ev L)=vs.map some)(hc:∀A w,(callFunc s A).run P w=.ok (.enter s A) w)(hf:Xi P s (fs++vs++cs) F z)(a:∀R∈F,R∈Φ)(hd:m<n)(g:Head P W n S w0 Y H ((m,z)::L) σ Φ): Head P W n S w0 Y (k::H) L σ Φ :=
 Bf ho hq hx ha hc hf a hd λu Ψ e=>by obtain ⟨rfl,rfl⟩:=e;exact g
theorem Xs(h:St n S w0 L σ Φ a w){fs cs:List Value}{vs:List Value}(hx:Fx.ev L x=some (.func (.func s) fs.toArray cs.toArray))(ha:A.toList.map (Fx.ev L)=vs.map some)(hc:∀A w,(callFunc s A).run P w=.ok (.enter s A) w)(hf:Xi P s (fs++vs++cs) F z)(b:∀R∈F,R∈Φ)(hd:k<n)(l:∀c w',St n S w0 ((k,z)::L) σ Φ c w'->K c w'): (Oper.mk (some k) (.call ⟨.value x,A,B⟩) ty pos aft g).wp P a w K Q :=
 TD h hx ha hc hf b hd λu Ψ c w' j e=>by obtain ⟨rfl,rfl⟩:=j;exact l c w' e
section
variable{ops:Array Oper}{Kf:Exit->Act->World->Prop}{i f:Nat}{listed:Array Bool}
theorem Yh(b:((i::H).all λj => !isF ops j)=true)(k:∀a w,St n S w0 L σ Φ a w->wpX P ops Kf (H.length+1) (A5 ops (i::H)) a w): Head P ops n S w0 Kf (i::H) L σ Φ :=
 .inr (.inr (.inr (.inr (.inl ⟨b,k⟩))))
theorem SU(R:List Nat)(hR:Region.ready .any ops listed=R)(b:R≠[])(k:∀i∈R,wpOp P ops (QN Kf) i (λc w'=>(∀o,ops[i]?=some o->Left ops o a w c w')/\wpX P ops Kf f (listed.setIfInBounds i true) c w') a w): wpX P ops Kf (f+1) listed a w :=
 ⟨λd=>absurd (hR ▸ d) b,hR ▸ k⟩
theorem QM(hR:Region.ready .any ops listed=[])(b:Kf .normal a w): wpX P ops Kf 0 listed a w:=⟨hR,b⟩
abbrev Cc(P:Program)(ops:Array Oper)(Kf:Exit->Act->World->Prop)(f:Nat)(listed:Array Bool)(i:Nat)(a:Act)(w:World): Prop :=
 wpOp P ops (QN Kf) i (λa' w'=>(∀o,ops[i]?=some o->Left ops o a w a' w')/\wpX P ops Kf f (listed.setIfInBounds i true) a' w') a w
theorem Pure1.noAlloc{L:List (Nat×Value)}(a:Pure1 P L j z): ∀T,j ≠ .alloc T:=by
 intro T he;subst he;generalize ho:Op.alloc T=j at a;induction a<;>first|(cases ho;done)|(rename_i b;exact b ho)|contradiction
theorem Jw(h:St n S w0 L σ Φ a w)(ho:ops[i]?=some ⟨some k,j,ty,pos,aft,none⟩)(c:Pure1 P L j z)(hd:k<n)(g:∀e,St n S w0 ((k,z)::L) σ Φ e w->wpX P ops Kf f (listed.setIfInBounds i true) e w): Cc P ops Kf f listed i a w :=
 Js ho (Qg (c.run h w) ⟨λo b=>by rw[ho] at b;cases b;exact Left.same (ops:=ops) (o:=⟨some k,j,ty,pos,aft,none⟩) ho (notF ho (c.noAlloc)),g _ (h.put hd z)⟩)
theorem Jm(h:St n S w0 L σ Φ a w){parts:Array (Nat×Operand)}(ho:ops[i]?=some ⟨some k,.buildSlice E m parts,ty,pos,aft,none⟩)(vs:List (Nat×Value))(j:parts.toList.map (λp=>(p.1,Fx.ev L p.2))=vs.map (λp=>(p.1,some p.2)))(hr:∀w,(Instr.buildSlice E m vs.toArray).run P w=.ok (.slice (some ⟨w.heap.size,0,none⟩) m d) (w.alloc (.cells G T (0,0))))(hd:k<n)(l:∀b g w',St n S w0 ((k,.slice (some ⟨b,0,none⟩) m d)::L) ((b,.cells G T (0,0))::σ) Φ g w'->wpX P ops Kf f (listed.setIfInBounds i true) g w'): Cc P ops Kf f listed i a w :=
 Js ho (Qg (v:=.slice (some ⟨w.heap.size,0,none⟩) m d) (w':=w.alloc (.cells G T (0,0))) (by simp only[execOp,Cm h j,bl,hr];rfl)
  ⟨λo c=>by rw[ho] at c;cases c;exact⟨λ_=>(Below.refl _ _).alloc (aZ _) _,(λ_ _ _ _ he=>by cases he),λt ht=>BP (o:=⟨some k,.buildSlice E m parts,ty,pos,aft,none⟩) ho ht,λt e hf=>noF ho (λ_ he=>by cases he) e hf⟩,l _ _ _ ((h.alloc _).put hd _)⟩)
theorem ER(h:St n S w0 L σ Φ a w)(ho:ops[i]?=some ⟨none,.store E x y,ty,pos,aft,none⟩)(hx:Fx.ev L x=some (.pointer (some ⟨k,m,none⟩)))(A:Fx.ev L y=some z)(e:Zp G m z.cells.toList=p)(hu:Upd σ k (.cells G T (0,0)) (.cells p T (0,0)) o)(hs:∀w,(Go.sizeOf E).run P w=.ok d w)(H:z.cells.size=d)(hle:m+d<=G.size)(l:z.cells.toList.all flat=true)(F:∀r w',St n S w0 L o Φ r w'->wpX P ops Kf f (listed.setIfInBounds i true) r w'): Cc P ops Kf f listed i a w :=
 Js ho (by
  subst e;obtain ⟨w',hr,N,g⟩:=h.store hu hs H hle l;exact Al (w':=w') (by simp only[execOp,h.ev hx,h.ev A,bl,hr];rfl) ⟨λJ D=>by
   rw[ho] at D;cases D
   exact⟨(λh=>by simp[early] at h),(λB t C M he _ u c hc=>g c (by
    simp only[Op.store.injEq] at he;obtain ⟨_,rfl,_⟩:=he;have:=h.val t _ hx;rw[u] at this;cases this
    exact hc)),(λ_ _ _=>rfl),λt j hf=>noF ho (λ_ he=>by cases he) j hf⟩,F _ _ N⟩)
end
theorem BH{e x:b}{l r:List b}(p:l.Perm (x::r)): (e::l).Perm (x::e::r):=(p.cons e).trans (List.Perm.swap x e r)
theorem ZH{e:b}{o l r:List b}(p:l.Perm (o++r)): (e::l).Perm (o++(e::r)):=(p.cons e).trans List.perm_middle.symm
theorem iG{x:b}{o l r:List b}(p:l.Perm (x::r)): (o++l).Perm (x::(o++r)):=(p.append_left o).trans uA
theorem pm_aa{o o' l r:List b}(p:l.Perm (o'++r)): (o++l).Perm (o'++(o++r)):=(p.append_left o).trans (by
 rw[<-cv, <-cv];exact List.perm_append_comm.append_right r)
theorem St.shareO'{ad:Option Addr}(h:St n S w0 L (o++σ) Φ a w)(f:∀k,S k->k<w0.heap.size)(l:GrowO k E (.slice ad m c) d J o):
  St n S w0 L σ (Row ad J::Φ) a w:=by
 obtain ⟨h1,⟨e,rfl,rfl⟩|⟨b,c,R,g,e,p,rfl⟩⟩:=l
 ·cases e
  exact h.derive (λX _ q=>absurd (dn (by simpa using h1)) q)
 cases g
 exact St.share (off:=0) h f (λj hj=>by simp[List.getElem?_append_left hj])
end Go.Fx
namespace Go.Fx
open Go Go.RowKit
attribute [local irreducible] Oper.wp Code.wp wpList Fx.Head wpOp
variable{B u d T x:TypeId}{A D:Option Addr}{c k v m E:Nat}{R:List Value}
variable{P:Program}{n:Nat}{S:Nat->Prop}{w0 w:World}{L:List (Nat×Value)}{σ σr:List (Nat×Obj)}{Φ:List Zs}{a:Act}{K:Act->World->Prop}{Q:Exit->Act->World->Prop}
theorem Q3(hT:∀w,(underlying k).run P w=.ok (.slice E) w)(hk:∀w,(Go.sizeOf E).run P w=.ok m w)(b off n c a:Nat)(h1:a<=n)(w:World):
  (Instr.sliceAt k (.slice (some ⟨b,off,none⟩) n c) (some (.int .i64 (a:Int))) none none).run P w=.ok (.slice (some ⟨b,if c=a then off else off+a*m,none⟩) (n-a) (c-a)) w:=by
 have e:∀j:Nat,asIntOf (.int .i64 (j:Int))=(pure (.i64,(j:Int)):Sem _):=λ_=>rfl;have hl:(0:Int)<=(a:Int)/\(a:Int)<=(n:Int):=by omega
 unfold Instr.sliceAt;simp only[bl,hT,Result.andThen,Instr.slice,Instr.sliceBounds,Instr.sliceBound,e,ej,hl,and_self,if_true,hk,py,tC,A8];split<;>rfl
theorem Ds{X:Nat->Prop}(hR:(Row A R).p X w)(e:R.length=E*k): ∀w':World,w'.heap=w.heap->(Builtin.firstCells k E (.slice A E m)).run P w'=.ok R.toArray w':=by
 intro w' d;by_cases he:R=[]
 ·subst he;cases A with
  | none=>simp[Builtin.firstCells]
  | some a=>simp at e;simp only[Builtin.firstCells];rw[<-e];simp[loadCells,loadCellsFrom]
 obtain ⟨b,off,cs,T,fr,rfl,l,hc,hj⟩:=hR he;have f:0<R.length:=List.length_pos_iff.2 he;have g:off+R.length<=cs.size:=by
  have h1:=hj (R.length-1) (by omega);rw[List.getElem?_eq_getElem (by omega)] at h1;obtain ⟨j,_⟩:=Array.getElem?_eq_some_iff.1 h1;omega
 have:=Xf (P:=P) w' b off (by rw[d];exact hc) (E*k) 0 #[] (by omega);simp only[Builtin.firstCells,loadCells];rw[this];congr 1;apply ph;apply ur;intro i;simp only[Array.empty_append,vC,uH,List.getElem?_take,List.getElem?_drop,Array.getElem?_toList];by_cases h:i<R.length
 ·rw[if_pos (by omega),show off+0+i=off+i by omega,hj i h]
 rw[if_neg (by omega),List.getElem?_eq_none (by omega)]
theorem AQ{i:TypeInfo}{z:Value}{n c2:Nat}{ad:Option Addr}{xs ys:List Value}(hT:∀w,(underlying T).run P w=.ok (.slice B) w)(s:∀w,(underlying u).run P w=.ok (.slice x) w)(v:∀w,(typeInfo B).run P w=.ok i w)(hk:∀w,(Go.sizeOf B).run P w=.ok k w)(hz:∀w,(zeroValue B).run P w=.ok z w)(d:z.cells.size=k)(q:k≠0)(y:0<i.bytes)(t:i.bytes*(2*(n+m)+192)<=281474976710656)(hc:c<n+m)(hold:∀w':World,w'.heap=w.heap->(Builtin.firstCells k n (.slice ad n c)).run P w'=.ok xs.toArray w')(r:∀w':World,w'.heap=w.heap->(Builtin.firstCells k m (.slice D m c2)).run P w'=.ok ys.toArray w')(ty:TypeId):
  ∃(f:Nat) (w':World),n+m<=f/\w'.heap=w.heap/\w'.os=w.os/\w'.tape=w.tape/\w'.output=w.output /\
   (Builtin.append_ #[T,u] ty #[.slice ad n c,.slice D m c2]).run P w =
    .ok (.slice (some ⟨w'.heap.size,0,none⟩) (n+m) f) (w'.alloc (.cells (xs++ys++CL (f-(n+m)) z.cells.toList).toArray B (0,0))):=by
 have p:z.cells≠#[]:=λe=>by rw[e] at d;exact q d.symm
 have j:=nextslicecap_le (n+m) c hc;have g:¬(Builtin.nextslicecap (n+m) c*i.bytes>2 ^ 48):=by
  have:Builtin.nextslicecap (n+m) c*i.bytes<=(2*(n+m)+192)*i.bytes:=cc _ j;rw[kI (2*(n+m)+192)] at this;have e:(2:Nat) ^ 48=281474976710656:=by decide
  omega
 refine⟨(Question.appendCap (n+m) c B).cut (w.tape w.drawn (.appendCap (n+m) c B)),{ w with drawn:=w.drawn+1 },by simp[Question.cut],rfl,rfl,rfl,rfl,?_⟩;have b:=hold { w with drawn:=w.drawn+1 } rfl;have l:=r { w with drawn:=w.drawn+1 } rfl;generalize hq:(Question.appendCap (n+m) c B).cut (w.tape w.drawn (.appendCap (n+m) c B))=f at *
 have a:(choose (.appendCap (n+m) c B)).run P w=.ok f { w with drawn:=w.drawn+1 }:=by
  simp[choose,Sem.run,Question.forced,hq]
 unfold Builtin.append_;simp only[List.getElem?_toArray,List.getElem?_cons_zero,List.getElem?_cons_succ,bl,hT,s,hk,Result.andThen,ej,oE,if_false,Builtin.lenOf,Nat.not_le.2 hc,v,g,false_or];have o:¬(((n+m:Nat):Int)>IntKind.i64.max/\i.bytes=0):=λh=>by have:=h.2;omega
 simp only[o,if_false,bl,ej,Result.andThen,v,g,a,run_askRoom,b,uw,if_true,l,hz,Dm p];simp[newRow,newObj,Sem.run];rfl
theorem AS{n c2:Nat}{cs:Array Value}(hT:∀w,(underlying T).run P w=.ok (.slice B) w)(g:∀w,(underlying u).run P w=.ok (.slice x) w)(hk:∀w,(Go.sizeOf B).run P w=.ok k w)(hc:n+m<=c)(h1:w.heap[v]?=some (.cells cs d (0,0)))(r:c*k<=cs.size)(hlen:R.length=m*k)(f:∀w':World,w'.heap=w.heap->(Builtin.firstCells k m (.slice A m c2)).run P w'=.ok R.toArray w')(e:R.all flat=true)(ty:TypeId):
  ∃w',(Builtin.append_ #[T,u] ty #[.slice (some ⟨v,0,none⟩) n c,.slice A m c2]).run P w=.ok (.slice (some ⟨v,0,none⟩) (n+m) c) w' /\
   w'.os=w.os/\w'.tape=w.tape/\w'.output=w.output/\w'.heap.size=w.heap.size /\
   w'.heap[v]?=some (.cells (Zp cs (n*k) R) d (0,0)) /\ ∀j,j≠v->w'.heap[j]?=w.heap[j]?:=by
 have hle:n*k+m*k<=cs.size:=by
  have:(n+m)*k<=c*k:=cc k hc;rw[dk] at this;omega
 obtain ⟨w',hr,o,t,p,q,i,l⟩:=Xk (P:=P) v (n*k) (T:=d) R 0 w cs h1 (by omega) (λy hu=>DO (List.all_eq_true.1 e y hu));refine⟨w',?_,o,t,p,q,by simpa using i,l⟩;have b:=f w rfl;unfold Builtin.append_;simp only[List.getElem?_toArray,List.getElem?_cons_zero,List.getElem?_cons_succ,bl,hT,g,hk,Result.andThen,ej,oE,if_false,Builtin.lenOf,hc,if_true,uw,b,A8,ca];simp only[hr]
theorem E1(hT:∀w,(underlying k).run P w=.ok (.array m E) w)(hk:∀w,(Go.sizeOf E).run P w=.ok c w)(b off j:Nat)(h:j<m)(w:World):
  (Instr.indexAt k (.pointer (some ⟨b,off,none⟩)) (.int .i64 (j:Int))).run P w=.ok (.pointer (some ⟨b,off+j*c,none⟩)) w:=by
 have e:asIntOf (.int .i64 (j:Int))=(pure (.i64,(j:Int)):Sem _):=rfl;have hj:(0:Int)<=(j:Int)/\(j:Int)<(m:Int):=by omega
 unfold Instr.indexAt;simp only[e,bl,ej,Result.andThen,hT,Instr.sureAddr,hj,and_self,if_true,hk,py,A8]
theorem Y6{α:Type}{enc:α->Value}{l:List α}(d:α)(h:k<l.length): Zm false 1 (l.map enc++R).toArray k=some (enc (l.getD k d)):=by
 have h1:(l.map enc++R)[k]?=(l.map enc)[k]?:=List.getElem?_append_left (by simpa using h);simp[Zm,h1,h]
end Go.Fx
namespace Go.Fx
open Go
variable{c n a d:Nat}{m l:List Nat}(k:Nat)
def dg:Nat->List Nat
 | 0=>[]
 | n+1=>((n+1)%10000)::dg ((n+1)/10000)
termination_by n=>n
decreasing_by omega
def valD:List Nat->Nat
 | []=>0
 | x::l=>x+10000*valD l
theorem qQ:dg 0=[]:=by unfold dg;rfl
theorem dg_pos(h:n≠0): dg n=(n%10000)::dg (n/10000):=by
 cases n with
 | zero=>exact absurd rfl h
 | succ n=>rw[dg]
theorem dg_lt:∀(n:Nat),∀x∈dg n,x<10000:=by
 intro n;induction n using Nat.strongRecOn with
 | _ n a =>
  by_cases h:n=0
  ·subst h;rw[qQ];intro x hx;cases hx
  rw[dg_pos h];intro x hx;rcases List.mem_cons.1 hx with rfl|hx
  ·omega
  exact a _ (by omega) x hx
def Dd(l:List Nat): Prop := ∀x∈l,x<10000
theorem Dd.dg: Dd (dg k):=dg_lt k
theorem Dd.take(h:Dd l)(m:Nat): Dd (l.take m):=λx hx=>h x (tK hx)
theorem Dd.getD(h:Dd l)(j:Nat): l.getD j 0<10000:=by
 rw[List.getD_eq_getElem?_getD];by_cases hj:j<l.length
 ·rw[List.getElem?_eq_getElem hj];exact h _ (uC hj)
 rw[List.getElem?_eq_none (by omega)];simp
theorem Dd.set(h:Dd l)(i v:Nat)(hv:v<10000): Dd (l.set i v):=by
 intro x hx;rcases uG hx with a|a
 ·exact h x a
 omega
theorem Dd.drop(h:Dd l)(m:Nat): Dd (l.drop m):=λx hx=>h x (wR hx)
theorem Dd.append(h:Dd l)(a:Dd m): Dd (l++m):=λx hx=>by
 rcases List.mem_append.1 hx with h1|h1
 ·exact h x h1
 exact a x h1
theorem Dd.zeros: Dd (List.replicate k 0):=λx hx=>by have:=uc hx;omega
theorem GrowO.le{E:TypeId}{ad:Option Addr}{xs:List Value}{o:List (Nat×Obj)}(h:GrowO n E (.slice ad d c) a xs o): d<=c:=by
 obtain ⟨_,⟨h,_,_⟩|⟨_,_,_,h,_,b,_⟩⟩:=h
 ·cases h;exact aZ _
 cases h;exact b
theorem Dd.snoc(h:Dd l)(hd:n<10000): Dd (l++[n]):=h.append (λx hx=>by simp at hx;omega)
end Go.Fx
namespace Go.Fx
open Go Go.RowKit
variable{F:Type _}{b5 O:List (Nat×Value)}{Z A:Array Value}{c b6:Code}{M m:Operand}{G g:Bool}{D b3:List (Nat×Obj)}{U:Value->List Zs->Prop}{J:Nat×Nat}{h z b7:Value}{a8 a7:Prop}{a1:String}{K b s j W:Nat}{b0:Program}{E l:TypeId}{b4:Obj}{N:Exit->Act->World->Prop}{q:Array Operand}{b1:World}{e:List Oper}{p:FuncId}{C:List Zs}{b2:Type}{a6:Array Edge}{f:Op}{R:Array (Nat×Operand)}{r:Array TypeId}(o:Nat)(B:List Value)
variable{ty:TypeId}{pos:String}{aft:Array Edge}
abbrev Wk(n:Nat)(S:Nat->Prop)(w0:World)(L:List (Nat×Value))(σ:List (Nat×Obj))(Φ:List Zs)(G:Act->World->Prop): Prop := ∀a w,St n S w0 L σ Φ a w->G a w
theorem mm{x:F}{l:List F}(h:x∈l:=by first|assumption|(repeat(first|exact List.Mem.head _|apply List.Mem.tail|apply eg))): x∈l:=h
theorem mr{x:F}{l:List F}(h:x∈l:=by repeat(first|exact List.Mem.head _|apply List.Mem.tail|apply eg)): x∈l:=h
theorem uu{o:Obj}(h:Upd D b o b4 b3:=by repeat(first|exact Upd.head|apply Upd.tail|apply Upd.append)): Upd D b o b4 b3:=h
theorem sl{l m:List F}(h:List.Sublist l m:=by repeat(first|exact fT _|apply List.Sublist.cons_cons|apply List.Sublist.cons)): List.Sublist l m:=h
theorem nb(h:Nat.ble b j=true:=by rfl): b<=j:=Nat.le_of_ble_eq_true h
theorem sA(h:SR O b5:=by repeat(first|exact trivial|refine⟨rfl,?_⟩)): ∀t v,look b5 t=some v->look O t=some v:=subL h
section
variable{P:Program}{n:Nat}{S:Nat->Prop}{w0:World}{L:List (Nat×Value)}{σ:List (Nat×Obj)}{Φ:List Zs}{a:Act}{w:World}{Q:Exit->Act->World->Prop}{ops:Array Oper}{rest:List Oper}
theorem Of(h:St n S w0 L σ Φ a w){d:Option Tmp}(hj:(ops[b]?).bind (·.dst)=some j)(ht:look L j=some undef): Region.wanted (Oper.mk d f ty pos aft (some (b,g))) (yielded ops a.tmps)=false:=by
 have hv:=h.val j _ ht;simp only[Region.wanted,yielded,hj,vh];cases c:a.tmps[j]? with
 | none=>rfl
 | some v =>
  have:v=undef:=by simpa [c] using hv
  subst this;rfl
theorem XG(h:St n S w0 L σ Φ a w)(hj:(ops[j]?).bind (·.dst)=some o)(ht:look L o=some undef)(hd:b<n)(k:∀c,St n S w0 ((b,undef)::L) σ Φ c w->wpList P ops Q rest c w): wpList P ops Q (Oper.mk (some b) f ty pos aft (some (j,g))::rest) a w:=by
 unfold wpList;rw[if_neg (by rw[Of h hj ht];simp)];exact k _ (h.put hd _)
theorem gC(h:St n S w0 L σ Φ a w)(k:Wk n S w0 L σ Φ (c.wp P Q)): c.wp P Q a w:=k a w h
theorem gL(h:St n S w0 L σ Φ a w)(k:Wk n S w0 L σ Φ (wpList P ops Q e)): wpList P ops Q e a w:=k a w h
theorem zs(k:Wk n S w0 L σ Φ (c.wp P (Exit.then (b6.wp P Q) Q))): Wk n S w0 L σ Φ ((Code.seq c b6).wp P Q):=λa w h=>wp_seq (k a w h)
theorem zr(k:Wk n S w0 L σ Φ (wpList P e.toArray Q e)): Wk n S w0 L σ Φ ((Code.region b e.toArray false).wp P Q):=λa w h=>wp_region_lit (k a w h)
theorem zn(k:Wk n S w0 L σ Φ (λa w=>Q .normal a w)): Wk n S w0 L σ Φ (wpList P ops Q []):=λa w h=>wpList_nil (k a w h)
theorem zk(k:Wk n S w0 L σ Φ (λa w=>Q .normal a w)): Wk n S w0 L σ Φ (Code.skip.wp P Q):=λa w h=>wp_skip (k a w h)
theorem zl(k:Wk n S w0 L σ Φ (λa w=>Q .normal a w)): Wk n S w0 L σ Φ ((Code.label b).wp P Q):=λa w h=>wp_label (k a w h)
theorem ze(k:Wk n S w0 L σ Φ (λa w=>Q (.exit b) a w)): Wk n S w0 L σ Φ ((Code.exit b).wp P Q):=λa w h=>wp_exit (k a w h)
theorem zt(k:Wk n S w0 L σ Φ (λa w=>Q .ret a w)): Wk n S w0 L σ Φ (Code.ret.wp P Q):=λa w h=>wp_ret (k a w h)
theorem zb(k:Wk n S w0 L σ Φ (c.wp P (Exit.inBlock b Q))): Wk n S w0 L σ Φ ((Code.block b c).wp P Q):=λa w h=>wp_block (k a w h)
theorem zc(k:Wk n S w0 L σ Φ (c.wp P (Exit.noGoto Q))): Wk n S w0 L σ Φ ((Code.scope c).wp P Q):=λa w h=>wp_scope_straight (k a w h)
theorem zp(a:Pure1 P L f z)(k:Wk n S w0 ((b,z)::L) σ Φ (wpList P ops Q rest))(hd:b<n:=by decide):
  Wk n S w0 L σ Φ (wpList P ops Q (Oper.mk (some b) f ty pos aft none::rest)):=λ_ w h=>Zc (ZS h a hd λe c=>k e w c)
theorem zq(hj:(ops[j]?).bind (·.dst)=some o)(ht:look L o=some (.bool g))(a:Pure1 P L f z)(k:Wk n S w0 ((b,z)::L) σ Φ (wpList P ops Q rest))(hd:b<n:=by decide):
  Wk n S w0 L σ Φ (wpList P ops Q (Oper.mk (some b) f ty pos aft (some (j,g))::rest)):=λ_ w h=>Zq o h hj ht (ZS h a hd λe c=>k e w c)
theorem zo(hj:(ops[j]?).bind (·.dst)=some o)(ht:look L o=some (.bool G))(a:(G == g)=false)(k:Wk n S w0 ((b,undef)::L) σ Φ (wpList P ops Q rest))(hd:b<n:=by decide):
  Wk n S w0 L σ Φ (wpList P ops Q (Oper.mk (some b) f ty pos aft (some (j,g))::rest)):=λ_ w h=>gk o h hj ht a hd λi e=>k i w e
theorem zu(hj:(ops[j]?).bind (·.dst)=some o)(ht:look L o=some undef)(k:Wk n S w0 ((b,undef)::L) σ Φ (wpList P ops Q rest))(hd:b<n:=by decide):
  Wk n S w0 L σ Φ (wpList P ops Q (Oper.mk (some b) f ty pos aft (some (j,g))::rest)):=λ_ w h=>XG o h hj ht hd λa c=>k a w c
theorem zm(hx:Fx.ev L m=some z)(k:Wk n S w0 ((b,z)::L) σ Φ (wpList P ops Q rest))(hd:b<n:=by decide):
  Wk n S w0 L σ Φ (wpList P ops Q (Oper.mk (some b) (.move m) ty pos aft none::rest)):=zp (.move hx) k hd
theorem za(hx:Fx.ev L m=some z)(k:Wk n S w0 ((b,z)::L) σ Φ (wpList P ops Q rest))(hd:b<n:=by decide):
  Wk n S w0 L σ Φ (wpList P ops Q (Oper.mk (some b) (.assign m) ty pos aft none::rest)):=zp (.assign hx) k hd
theorem zv(ha:q.toList.map (Fx.ev L)=B.map some)(hc:∀q w,(callFunc p q).run P w=.ok (.enter p q) w)(hf:Jk P p B z)(k:Wk n S w0 ((b,z)::L) σ Φ (wpList P ops Q rest))(hd:b<n:=by decide):
  Wk n S w0 L σ Φ (wpList P ops Q (Oper.mk (some b) (.call ⟨.value (.func p),q,r⟩) ty pos aft none::rest)):=λ_ w h=>Zc (Xn h ha hc hf hd λe w' c=>k e w' c)
theorem zw(ha:q.toList.map (Fx.ev L)=B.map some)(hc:∀q w,(callFunc p q).run P w=.ok (.enter p q) w)(hf:Xi P p B C z)(k:Wk n S w0 ((b,z)::L) σ Φ (wpList P ops Q rest))(a:∀R∈C,R∈Φ:=by simp)(hd:b<n:=by decide):
  Wk n S w0 L σ Φ (wpList P ops Q (Oper.mk (some b) (.call ⟨.value (.func p),q,r⟩) ty pos aft none::rest)):=λ_ w h=>Zc (Qu h ha hc hf a hd λc w' e=>k c w' e)
theorem zf(ha:q.toList.map (Fx.ev L)=B.map some)(hc:∀q w,(callFunc p q).run P w=.ok (.enter p q) w)(hf:Ctr P p B C U)(k:∀v Ψ,U v Ψ->Wk n S w0 ((b,v)::L) σ (Ψ++Φ) (wpList P ops Q rest))(a:∀R∈C,R∈Φ:=by simp)(hd:b<n:=by decide):
  Wk n S w0 L σ Φ (wpList P ops Q (Oper.mk (some b) (.call ⟨.value (.func p),q,r⟩) ty pos aft none::rest)):=λ_ w h=>Zc (He h ha hc hf a hd λv Ψ g w' c e=>k v Ψ c g w' e)
theorem zx(hx:Fx.ev L m=some z)(k:∀e,Wk n S w0 ((b,.pointer (some ⟨e,0,none⟩))::L) ((e,.cells z.cells l (0,0))::σ) Φ (wpList P ops Q rest))(hd:b<n:=by decide):
  Wk n S w0 L σ Φ (wpList P ops Q (Oper.mk (some b) (.box l m) ty pos aft none::rest)):=λ_ w h=>Zc (op_box h hx hd λe a w' c=>k e a w' c)
theorem zz(hz:∀w,(zeroValue l).run P w=.ok z w)(k:∀e,Wk n S w0 ((b,.pointer (some ⟨e,0,none⟩))::L) ((e,.cells z.cells l (0,0))::σ) Φ (wpList P ops Q rest))(hd:b<n:=by decide):
  Wk n S w0 L σ Φ (wpList P ops Q (Oper.mk (some b) (.alloc l) ty pos aft none::rest)):=λ_ w h=>Zc (iN h hz hd λe a w' c=>k e a w' c)
theorem zB(vs:List (Nat×Value))(a:R.toList.map (λp=>(p.1,Fx.ev L p.2))=vs.map (λp=>(p.1,some p.2)))(hr:∀w,(Instr.buildSlice l j vs.toArray).run P w=.ok (.slice (some ⟨w.heap.size,0,none⟩) j s) (w.alloc (.cells A E (0,0))))(k:∀f,Wk n S w0 ((b,.slice (some ⟨f,0,none⟩) j s)::L) ((f,.cells A E (0,0))::σ) Φ (wpList P ops Q rest))(hd:b<n:=by decide):
  Wk n S w0 L σ Φ (wpList P ops Q (Oper.mk (some b) (.buildSlice l j R) ty pos aft none::rest)):=λ_ w h=>Zc (MH h vs a hr hd λf c w' e=>k f c w' e)
theorem zd(hx:Fx.ev L m=some (.pointer (some ⟨j,s,none⟩)))(hm:(j,Obj.cells A E J)∈σ)(hagg:∀w,(isAgg l).run P w=.ok g w)(hs:∀w,(Go.sizeOf l).run P w=.ok K w)(hv:Zm g K A s=some z)(k:Wk n S w0 ((b,z)::L) σ Φ (wpList P ops Q rest))(hd:b<n:=by decide):
  Wk n S w0 L σ Φ (wpList P ops Q (Oper.mk (some b) (.load l m) ty pos aft none::rest)):=λ_ w h=>Zc (Rr h hx hm hagg hs hv hd λe c=>k e w c)
theorem zD{d:Nat}{b off j:Nat}{M:List Value}{v:Value}(hx:Fx.ev L m=some (.pointer (some ⟨b,off+j,none⟩)))(hm:Row (some ⟨b,off,none⟩) M∈Φ)(c:j<M.length)(hagg:∀w,(isAgg l).run P w=.ok g w)(hs:∀w,(Go.sizeOf l).run P w=.ok W w)(hv:Zm g W M.toArray j=some v)(a:g=true\/W=1)(k:Wk n S w0 ((d,v)::L) σ Φ (wpList P ops Q rest))(hd:d<n:=by decide):
  Wk n S w0 L σ Φ (wpList P ops Q (Oper.mk (some d) (.load l m) ty pos aft none::rest)):=λ_ w h=>Zc (Xm h hx hm c hagg hs hv a hd λe f=>k e w f)
theorem zt'{cs:Array Value}{v:Value}{cs':Array Value}(hx:Fx.ev L m=some (.pointer (some ⟨b,j,none⟩)))(g:Fx.ev L M=some v)(a:Zp cs j v.cells.toList=cs')(hu:Upd σ b (.cells cs E (0,0)) (.cells cs' E (0,0)) D)(hs:∀w,(Go.sizeOf l).run P w=.ok s w)(d:v.cells.size=s)(hle:j+s<=cs.size)(c:v.cells.toList.all flat=true)(k:Wk n S w0 L D Φ (wpList P ops Q rest)): Wk n S w0 L σ Φ (wpList P ops Q (Oper.mk none (.store l m M) ty pos aft none::rest)):=λ_ w h=>Zc (iJ h hx g a hu hs d hle c λi w' f=>k i w' f)
theorem yD(hm:P.follows .mixedOrders=true)(H:List Nat)(f:AB P e.toArray n H L)(hH:Head P e.toArray n S w0 Q H L σ Φ)(a:(Region.noSelect e.toArray && NE e.toArray && pI e.toArray && decide (H.Nodup) && decide (H.length=e.length) && H.all (λi=>decide (i<e.length)))=true:=by kernel_rfl):
  Wk n S w0 L σ Φ ((Code.region b e.toArray true).wp P Q):=λ_ _ h=>gl hm h H L (λ_ _ c=>c) a f hH
variable{H:List Nat}{Kf:Exit->Act->World->Prop}{i d:Nat}
theorem yp(ho:ops[i]?=some ⟨some d,f,ty,pos,aft,none⟩)(a:Pure1 P L f z)(k:Head P ops n S w0 Kf H ((d,z)::L) σ Φ)(hq:Yz ops false i H=true:=by kernel_rfl)(hd:d<n:=by decide):
  Head P ops n S w0 Kf (i::H) L σ Φ:=Ph ho hq a hd k
theorem yq(ho:ops[i]?=some ⟨some d,f,ty,pos,aft,some (b,g)⟩)(hj:(ops[b]?).bind (·.dst)=some j)(ht:look L j=some (.bool g))(a:Pure1 P L f z)(k:Head P ops n S w0 Kf H ((d,z)::L) σ Φ)(hq:Yz ops false i H=true:=by kernel_rfl)(hd:d<n:=by decide):
  Head P ops n S w0 Kf (i::H) L σ Φ:=Wl ho hj ht hq a hd k
theorem yo(ho:ops[i]?=some ⟨some d,f,l,a1,a6,some (b,g)⟩)(hj:(ops[b]?).bind (·.dst)=some o)(ht:look L o=some (.bool G))(a:(G == g)=false)(k:Head P ops n S w0 Kf H ((d,undef)::L) σ Φ)(hq:Yz ops false i H=true:=by kernel_rfl)(hd:d<n:=by decide):
  Head P ops n S w0 Kf (i::H) L σ Φ:=bT ho hj ht a hq hd k
theorem RX{vs:List Value}(ho:ops[i]?=some ⟨some d,.call ⟨.value (.func p),q,r⟩,ty,pos,aft,some (b,g)⟩)(hj:(ops[b]?).bind (·.dst)=some j)(ht:look L j=some (.bool g))(hq:Vo ops i H=true)(ha:q.toList.map (Fx.ev L)=vs.map some)(hc:∀q w,(callFunc p q).run P w=.ok (.enter p q) w)(hf:Xi P p vs C z)(a:∀R∈C,R∈Φ)(hd:d<n)(k:Head P ops n S w0 Kf H ((d,z)::L) σ Φ): Head P ops n S w0 Kf (i::H) L σ Φ :=
 LU ho hj ht hq ha hc hf a hd λu Ψ c=>by obtain ⟨rfl,rfl⟩:=c;exact k
theorem yv(ho:ops[i]?=some ⟨some d,.call ⟨.value (.func p),q,r⟩,ty,pos,aft,none⟩)(ha:q.toList.map (Fx.ev L)=B.map some)(hc:∀q w,(callFunc p q).run P w=.ok (.enter p q) w)(hf:Jk P p B z)(k:Head P ops n S w0 Kf H ((d,z)::L) σ Φ)(hq:Vo ops i H=true:=by kernel_rfl)(hd:d<n:=by decide): Head P ops n S w0 Kf (i::H) L σ Φ:=Wo ho hq ha hc hf hd k
theorem yw(ho:ops[i]?=some ⟨some d,.call ⟨.value (.func p),q,r⟩,ty,pos,aft,none⟩)(ha:q.toList.map (Fx.ev L)=B.map some)(hc:∀q w,(callFunc p q).run P w=.ok (.enter p q) w)(hf:Xi P p B C z)(k:Head P ops n S w0 Kf H ((d,z)::L) σ Φ)(a:∀R∈C,R∈Φ:=by simp)(hq:Vo ops i H=true:=by kernel_rfl)(hd:d<n:=by decide): Head P ops n S w0 Kf (i::H) L σ Φ:=Gm ho hq ha hc hf a hd k
theorem yf(ho:ops[i]?=some ⟨some d,.call ⟨.value (.func p),q,r⟩,ty,pos,aft,none⟩)(ha:q.toList.map (Fx.ev L)=B.map some)(hc:∀q w,(callFunc p q).run P w=.ok (.enter p q) w)(hf:Ctr P p B C U)(k:∀v Ψ,U v Ψ->Head P ops n S w0 Kf H ((d,v)::L) σ (Ψ++Φ))(a:∀R∈C,R∈Φ:=by simp)(hq:Vo ops i H=true:=by kernel_rfl)(hd:d<n:=by decide): Head P ops n S w0 Kf (i::H) L σ Φ:=Zu ho hq ha hc hf a hd k
theorem yz(ho:ops[i]?=some ⟨some d,.alloc l,E,a1,a6,none⟩)(hz:∀w,(zeroValue l).run P w=.ok z w)(k:∀b,Head P ops n S w0 Kf H ((d,.pointer (some ⟨b,0,none⟩))::L) ((b,.cells z.cells l (0,0))::σ) Φ)(hq:Nc ops i H=true:=by kernel_rfl)(hd:d<n:=by decide): Head P ops n S w0 Kf (i::H) L σ Φ:=Wn ho hq hz hd k
theorem yB(ho:ops[i]?=some ⟨some d,.buildSlice l b R,ty,pos,aft,none⟩)(vs:List (Nat×Value))(a:R.toList.map (λp=>(p.1,Fx.ev L p.2))=vs.map (λp=>(p.1,some p.2)))(hr:∀w,(Instr.buildSlice l b vs.toArray).run P w=.ok (.slice (some ⟨w.heap.size,0,none⟩) b j) (w.alloc (.cells A E (0,0))))(k:∀c,Head P ops n S w0 Kf H ((d,.slice (some ⟨c,0,none⟩) b j)::L) ((c,.cells A E (0,0))::σ) Φ)(hq:Vo ops i H=true:=by kernel_rfl)(hd:d<n:=by decide): Head P ops n S w0 Kf (i::H) L σ Φ:=JJ ho hq vs a hr hd k
theorem yd(ho:ops[i]?=some ⟨some d,.load l m,ty,pos,aft,none⟩)(hx:Fx.ev L m=some (.pointer (some ⟨b,j,none⟩)))(hm:(b,Obj.cells A E J)∈σ)(hagg:∀w,(isAgg l).run P w=.ok g w)(hs:∀w,(Go.sizeOf l).run P w=.ok s w)(hv:Zm g s A j=some z)(k:Head P ops n S w0 Kf H ((d,z)::L) σ Φ)(hq:Yz ops true i H=true:=by kernel_rfl)(hd:d<n:=by decide): Head P ops n S w0 Kf (i::H) L σ Φ:=bU ho hq hx hm hagg hs hv hd k
theorem yg(ho:ops[i]?=some ⟨some d,.load l m,ty,pos,aft,some (b,g)⟩)(hj:(ops[b]?).bind (·.dst)=some j)(ht:look L j=some (.bool g))(hx:Fx.ev L m=some (.pointer (some ⟨s,K,none⟩)))(hm:(s,Obj.cells A E J)∈σ)(hagg:∀w,(isAgg l).run P w=.ok G w)(hs:∀w,(Go.sizeOf l).run P w=.ok W w)(hv:Zm G W A K=some z)(k:Head P ops n S w0 Kf H ((d,z)::L) σ Φ)(hq:Yz ops true i H=true:=by kernel_rfl)(hd:d<n:=by decide): Head P ops n S w0 Kf (i::H) L σ Φ:=Wm ho hj ht hq hx hm hagg hs hv hd k
theorem yt(ho:ops[i]?=some ⟨none,.store l m M,ty,pos,aft,none⟩)(hx:Fx.ev L m=some (.pointer (some ⟨b,j,none⟩)))(f:Fx.ev L M=some z)(a:Zp A j z.cells.toList=Z)(hu:Upd σ b (.cells A E (0,0)) (.cells Z E (0,0)) D)(hs:∀w,(Go.sizeOf l).run P w=.ok s w)(d:z.cells.size=s)(hle:j+s<=A.size)(c:z.cells.toList.all flat=true)(k:Head P ops n S w0 Kf H L D Φ)(hq:Vo ops i H=true:=by kernel_rfl): Head P ops n S w0 Kf (i::H) L σ Φ:=Vm ho hq hx f a hu hs d hle c k
theorem yn(k:Wk n S w0 L σ Φ (Kf .normal)): Head P ops n S w0 Kf [] L σ Φ:=jA k
theorem Pure1.ii{op:BinOp}(hx:Fx.ev L m=some z)(b:Fx.ev L M=some h)(hr:∀w,(do eqGuard op l m M z h;Go.binOp op l z h:Sem Value).run P w=.ok b7 w): Pure1 P L (.binOp op l m M E) b7:=.binOp hx b hr
end
section
variable{P:Program}{L:List (Nat×Value)}{T T':TypeId}{X Y:Operand}{k:IntKind}{x y:Int}
theorem Pure1.add(hx:Fx.ev L X=some (.int .i64 x))(a:Fx.ev L Y=some (.int .i64 y))(b : -9223372036854775808<=x+y:=by omega)(h1:x+y<=9223372036854775807:=by omega): Pure1 P L (.binOp .add T X Y T') (.int .i64 (x+y)):=.binOp hx a (λ_=>Jt _ _ _ _ _ (wrap_i64 _ b h1))
theorem Pure1.sub(hx:Fx.ev L X=some (.int .i64 x))(a:Fx.ev L Y=some (.int .i64 y))(b : -9223372036854775808<=x-y:=by omega)(h1:x-y<=9223372036854775807:=by omega): Pure1 P L (.binOp .sub T X Y T') (.int .i64 (x-y)):=.binOp hx a (λ_=>hJ _ _ _ _ _ (wrap_i64 _ b h1))
theorem Pure1.mul(hx:Fx.ev L X=some (.int .i64 x))(a:Fx.ev L Y=some (.int .i64 y))(b : -9223372036854775808<=x*y:=by omega)(h1:x*y<=9223372036854775807:=by omega): Pure1 P L (.binOp .mul T X Y T') (.int .i64 (x*y)):=.binOp hx a (λ_=>ib _ _ _ _ _ (wrap_i64 _ b h1))
theorem Pure1.lss(hx:Fx.ev L X=some (.int k x))(a:Fx.ev L Y=some (.int k y)): Pure1 P L (.binOp .lss T X Y T') (.bool (decide (x<y))):=.binOp hx a (λ_=>oC _ _ _ _ _)
theorem Pure1.leq(hx:Fx.ev L X=some (.int k x))(a:Fx.ev L Y=some (.int k y)): Pure1 P L (.binOp .leq T X Y T') (.bool (decide (x<=y))):=.binOp hx a (λ_=>oD _ _ _ _ _)
theorem Pure1.gtr(hx:Fx.ev L X=some (.int k x))(a:Fx.ev L Y=some (.int k y)): Pure1 P L (.binOp .gtr T X Y T') (.bool (decide (x>y))):=.binOp hx a (λ_=>oH _ _ _ _ _)
theorem Pure1.geq(hx:Fx.ev L X=some (.int k x))(a:Fx.ev L Y=some (.int k y)): Pure1 P L (.binOp .geq T X Y T') (.bool (decide (x>=y))):=.binOp hx a (λ_=>oI _ _ _ _ _)
theorem Pure1.eql(hx:Fx.ev L X=some (.int k x))(a:Fx.ev L Y=some (.int k y)): Pure1 P L (.binOp .eql T X Y T') (.bool (x == y)):=.binOp hx a (λ_=>oJ _ _ _ _ _)
theorem Pure1.neq(hx:Fx.ev L X=some (.int k x))(a:Fx.ev L Y=some (.int k y)): Pure1 P L (.binOp .neq T X Y T') (.bool (x != y)):=.binOp hx a (λ_=>ow _ _ _ _ _)
end
abbrev nI(n:Nat): Value:=.int .i64 ((n:Nat):Int)
abbrev pB(b:Nat): Value:=.pointer (some ⟨b,0,none⟩)
abbrev bV(v:Value)(T:TypeId): Obj:=.cells (Value.cells v) T (0,0)
theorem lA(h:b=j:=by simp only[bd,dc,oT,ca]): b=j:=h
theorem dT[Decidable a7](h:decide a7=true)(k:a7->a8:=by intro h;first|omega|(dsimp only at h;omega)): a8:=k (of_decide_eq_true h)
theorem dF[Decidable a7](h:decide a7=false)(k:¬a7->a8:=by intro h;first|omega|(dsimp only at h;omega)): a8:=k (of_decide_eq_false h)
theorem cW{a:Act}(h:Code.wp b0 c N a b1): Code.wp b0 c N a b1:=h
section
variable{P:Program}{n:Nat}{S:Nat->Prop}{w0:World}{L:List (Nat×Value)}{σ:List (Nat×Obj)}{Φ:List Zs}{a:Act}{w:World}{ops:Array Oper}{fn:Func}{v u:Value}{t:Nat}{Q:Exit->Act->World->Prop}
theorem retW(h:St n S w0 L σ Φ a w)(hr:(results fn a.tmps).run P w=.ok u w)(hv:u=v): wpList P ops (Exit.then (Code.ret.wp P (bodyPost P fn (kZ S w0 (λu Ψ=>u=v/\Ψ=[])))) Q) [] a w:=wpList_nil (wp_ret (Xh h hr hv))
theorem retR(h:St n S w0 L σ Φ a w)(hr:fn.results=#[.tmp t]:=by exact rfl)(ht:look L t=some u:=by exact rfl)(hv:u=v:=by rfl): bodyPost P fn (kZ S w0 (λu Ψ=>u=v/\Ψ=[])) .ret a w:=Xh h (Zd h hr (.tmp ht)) hv
theorem retX(h:St n S w0 L σ Φ a w)(hr:fn.results=#[.tmp t]:=by exact rfl)(ht:look L t=some u:=by exact rfl)(hv:u=v:=by rfl): wpList P ops (Exit.then (Code.ret.wp P (bodyPost P fn (kZ S w0 (λu Ψ=>u=v/\Ψ=[])))) Q) [] a w:=retW h (Zd h hr (.tmp ht)) hv
end
theorem nE{enc:b2->Value}{l:List b2}(h:l.length≠0:=by omega)(a:o≠0:=by decide)(hk:∀x,(enc x).cells.size=o:=by exact λ_=>rfl): cellsOf enc l≠[]:=by
 intro e;have:=congrArg List.length e;rw[cellsOf_length hk] at this;simp only[oT,Nat.mul_eq_zero] at this;omega
theorem nF{f:b2->Value}{l:List b2}(h:l.length≠0:=by omega): List.map f l≠[]:=by
 intro e;have:=congrArg List.length e;simp only[az,oT] at this;omega
theorem zS{S:Nat->Prop}(k:Wk b S b1 O D C (wpList b0 e.toArray (Exit.then (c.wp b0 N) N) e)): Wk b S b1 O D C ((Code.seq (Code.region j e.toArray false) c).wp b0 N):=zs (zr k)
section
variable{P:Program}{L:List (Nat×Value)}{n:Nat}{S:Nat->Prop}{w0:World}{σ:List (Nat×Obj)}{Φ:List Zs}
theorem Pure1.pN(c:Pure1 P L f z)(h:z=.int .i64 ((o:Nat):Int):=by show Value.int _ _=Value.int _ _;congr 1): Pure1 P L f (.int .i64 ((o:Nat):Int)):=aq c h
theorem Pure1.pO(c:Pure1 P L f z)(h:z=.int .i64 ((o:Nat):Int):=by show Value.int _ _=Value.int _ _;congr 1;omega): Pure1 P L f (.int .i64 ((o:Nat):Int)):=aq c h
theorem Pure1.pQ(c:Pure1 P L f z)(h:z=.int .i64 ((o:Nat):Int):=by show Value.int _ _=Value.int _ _;congr 1<;>omega): Pure1 P L f (.int .i64 ((o:Nat):Int)):=aq c h
theorem Pure1.fA(hx:Fx.ev L m=some z)(hr:∀w,(Instr.fieldAt l z b).run P w=.ok h w): Pure1 P L (.fieldAddr l m b) h:=.fieldAddr hx hr
theorem Pure1.eX(hx:Fx.ev L m=some z)(hr:∀w,(Instr.extract z b).run P w=.ok h w:=by exact λ_=>rfl): Pure1 P L (.extract m b) h:=.extract hx hr
theorem ym{ops:Array Oper}{H:List Nat}(ho:ops[b]?=some ⟨some j,.move m,ty,pos,aft,none⟩)(hx:Fx.ev L m=some z)(k:Head P ops n S w0 N H ((j,z)::L) σ Φ)(hq:Yz ops false b H=true:=by kernel_rfl)(hd:j<n:=by decide):
  Head P ops n S w0 N (b::H) L σ Φ:=Ph ho hq (.move hx) hd k
end
end Go.Fx
