/- Short steps, which chain as one term: the walk from state to state. By an AI agent. -/
import Derived.Test.YthcjdeklpegceaaGreatDoorFxD
set_option linter.unusedVariables false
set_option linter.unusedSimpArgs false
set_option linter.unusedSectionVars false
namespace Go.Fx
open Go Go.RowKit
variable {ty : TypeId} {pos : String} {aft : Array Edge}
abbrev Wk (n : Nat) (S : Nat → Prop) (w0 : World) (L : List (Nat × Value)) (σ : List (Nat × Obj)) (Φ : List Qf) (G : Act → World → Prop) : Prop := ∀ a w, St n S w0 L σ Φ a w → G a w
theorem mm {α : Type _} {x : α} {l : List α} (h : x ∈ l := by first | assumption | (repeat (first | exact List.Mem.head _ | apply List.Mem.tail | apply List.mem_append_right))) : x ∈ l := h
theorem mr {α : Type _} {x : α} {l : List α} (h : x ∈ l := by repeat (first | exact List.Mem.head _ | apply List.Mem.tail | apply List.mem_append_right)) : x ∈ l := h
theorem uu {σ σ' : List (Nat × Obj)} {b : Nat} {o o' : Obj} (h : Upd σ b o o' σ' := by repeat (first | exact Upd.head | apply Upd.tail | apply Upd.append)) : Upd σ b o o' σ' := h
theorem sl {α : Type _} {l m : List α} (h : List.Sublist l m := by repeat (first | exact List.Sublist.refl _ | apply List.Sublist.cons_cons | apply List.Sublist.cons)) : List.Sublist l m := h
theorem nb {a b : Nat} (h : Nat.ble a b = true := by rfl) : a ≤ b := Nat.le_of_ble_eq_true h
theorem sA {L M : List (Nat × Value)} (h : Zpo L M := by repeat (first | exact trivial | refine ⟨rfl, ?_⟩)) : ∀ t v, look M t = some v → look L t = some v := Ztd h
section
variable {P : Program} {n : Nat} {S : Nat → Prop} {w0 : World} {L : List (Nat × Value)} {σ : List (Nat × Obj)} {Φ : List Qf} {a : Act} {w : World} {Q : Exit → Act → World → Prop} {ops : Array Oper} {rest : List Oper}
theorem gC (h : St n S w0 L σ Φ a w) {c : Code} (k : Wk n S w0 L σ Φ (c.wp P Q)) : c.wp P Q a w := k a w h
theorem gL (h : St n S w0 L σ Φ a w) {l : List Oper} (k : Wk n S w0 L σ Φ (wpList P ops Q l)) : wpList P ops Q l a w := k a w h
theorem zs {c1 c2 : Code} (k : Wk n S w0 L σ Φ (c1.wp P (Exit.then (c2.wp P Q) Q))) : Wk n S w0 L σ Φ ((Code.seq c1 c2).wp P Q) := fun a w h => wp_seq (k a w h)
theorem zr {id : Nat} {l : List Oper} (k : Wk n S w0 L σ Φ (wpList P l.toArray Q l)) : Wk n S w0 L σ Φ ((Code.region id l.toArray false).wp P Q) := fun a w h => wp_region_lit (k a w h)
theorem zn (k : Wk n S w0 L σ Φ (fun a w => Q .normal a w)) : Wk n S w0 L σ Φ (wpList P ops Q []) := fun a w h => wpList_nil (k a w h)
theorem zk (k : Wk n S w0 L σ Φ (fun a w => Q .normal a w)) : Wk n S w0 L σ Φ (Code.skip.wp P Q) := fun a w h => wp_skip (k a w h)
theorem zl {l : Nat} (k : Wk n S w0 L σ Φ (fun a w => Q .normal a w)) : Wk n S w0 L σ Φ ((Code.label l).wp P Q) := fun a w h => wp_label (k a w h)
theorem ze {id : Nat} (k : Wk n S w0 L σ Φ (fun a w => Q (.exit id) a w)) : Wk n S w0 L σ Φ ((Code.exit id).wp P Q) := fun a w h => wp_exit (k a w h)
theorem zt (k : Wk n S w0 L σ Φ (fun a w => Q .ret a w)) : Wk n S w0 L σ Φ (Code.ret.wp P Q) := fun a w h => wp_ret (k a w h)
theorem zb {id : Nat} {c : Code} (k : Wk n S w0 L σ Φ (c.wp P (Exit.inBlock id Q))) : Wk n S w0 L σ Φ ((Code.block id c).wp P Q) := fun a w h => wp_block (k a w h)
theorem zc {c : Code} (k : Wk n S w0 L σ Φ (c.wp P (Exit.noGoto Q))) : Wk n S w0 L σ Φ ((Code.scope c).wp P Q) := fun a w h => wp_scope_straight (k a w h)
theorem zp {d : Nat} {op : Op} {v : Value} (hp : Pure1 P L op v) (k : Wk n S w0 ((d, v) :: L) σ Φ (wpList P ops Q rest)) (hd : d < n := by decide) :
  Wk n S w0 L σ Φ (wpList P ops Q (Oper.mk (some d) op ty pos aft none :: rest)) := fun _ w h => Zc (Zx h hp hd fun a' h' => k a' w h')
theorem zq {d j : Nat} {want : Bool} (t : Nat) {op : Op} {v : Value} (hj : (ops[j]?).bind (·.dst) = some t) (ht : look L t = some (.bool want))
  (hp : Pure1 P L op v) (k : Wk n S w0 ((d, v) :: L) σ Φ (wpList P ops Q rest)) (hd : d < n := by decide) :
  Wk n S w0 L σ Φ (wpList P ops Q (Oper.mk (some d) op ty pos aft (some (j, want)) :: rest)) := fun _ w h => Zt t h hj ht (Zx h hp hd fun a' h' => k a' w h')
theorem zo {d j : Nat} {want c : Bool} (t : Nat) {op : Op} (hj : (ops[j]?).bind (·.dst) = some t) (ht : look L t = some (.bool c)) (hne : (c == want) = false)
  (k : Wk n S w0 ((d, undef) :: L) σ Φ (wpList P ops Q rest)) (hd : d < n := by decide) :
  Wk n S w0 L σ Φ (wpList P ops Q (Oper.mk (some d) op ty pos aft (some (j, want)) :: rest)) := fun _ w h => Zxq t h hj ht hne hd fun a' h' => k a' w h'
theorem zm {d : Nat} {x : Operand} {v : Value} (hx : Fx.ev L x = some v) (k : Wk n S w0 ((d, v) :: L) σ Φ (wpList P ops Q rest)) (hd : d < n := by decide) :
  Wk n S w0 L σ Φ (wpList P ops Q (Oper.mk (some d) (.move x) ty pos aft none :: rest)) := zp (.move hx) k hd
theorem za {d : Nat} {x : Operand} {v : Value} (hx : Fx.ev L x = some v) (k : Wk n S w0 ((d, v) :: L) σ Φ (wpList P ops Q rest)) (hd : d < n := by decide) :
  Wk n S w0 L σ Φ (wpList P ops Q (Oper.mk (some d) (.assign x) ty pos aft none :: rest)) := zp (.assign hx) k hd
theorem zv {d : Nat} {f : FuncId} {args : Array Operand} {tys : Array TypeId} (vs : List Value) {v : Value} (ha : args.toList.map (Fx.ev L) = vs.map some)
  (hc : ∀ args w, (callFunc f args).run P w = .ok (.enter f args) w) (hf : Xm P f vs v) (k : Wk n S w0 ((d, v) :: L) σ Φ (wpList P ops Q rest)) (hd : d < n := by decide) :
  Wk n S w0 L σ Φ (wpList P ops Q (Oper.mk (some d) (.call ⟨.value (.func f), args, tys⟩) ty pos aft none :: rest)) := fun _ w h => Zc (Zay h ha hc hf hd fun a' w' h' => k a' w' h')
theorem zw {d : Nat} {f : FuncId} {args : Array Operand} {tys : Array TypeId} (vs : List Value) {v : Value} {Φ' : List Qf} (ha : args.toList.map (Fx.ev L) = vs.map some)
  (hc : ∀ args w, (callFunc f args).run P w = .ok (.enter f args) w) (hf : Gh P f vs Φ' v) (k : Wk n S w0 ((d, v) :: L) σ Φ (wpList P ops Q rest)) (hsub : ∀ R ∈ Φ', R ∈ Φ := by simp) (hd : d < n := by decide) :
  Wk n S w0 L σ Φ (wpList P ops Q (Oper.mk (some d) (.call ⟨.value (.func f), args, tys⟩) ty pos aft none :: rest)) := fun _ w h => Zc (Yl h ha hc hf hsub hd fun a' w' h' => k a' w' h')
theorem zf {d : Nat} {f : FuncId} {args : Array Operand} {tys : Array TypeId} (vs : List Value) {Φ' : List Qf} {post : Value → List Qf → Prop} (ha : args.toList.map (Fx.ev L) = vs.map some)
  (hc : ∀ args w, (callFunc f args).run P w = .ok (.enter f args) w) (hf : Ctr P f vs Φ' post) (k : ∀ v Ψ, post v Ψ → Wk n S w0 ((d, v) :: L) σ (Ψ ++ Φ) (wpList P ops Q rest)) (hsub : ∀ R ∈ Φ', R ∈ Φ := by simp) (hd : d < n := by decide) :
  Wk n S w0 L σ Φ (wpList P ops Q (Oper.mk (some d) (.call ⟨.value (.func f), args, tys⟩) ty pos aft none :: rest)) := fun _ w h => Zc (Jd h ha hc hf hsub hd fun v Ψ a' w' hp h' => k v Ψ hp a' w' h')
theorem zx {d : Nat} {T : TypeId} {x : Operand} {u : Value} (hx : Fx.ev L x = some u)
  (k : ∀ b, Wk n S w0 ((d, .pointer (some ⟨b, 0, none⟩)) :: L) ((b, .cells u.cells T (0, 0)) :: σ) Φ (wpList P ops Q rest)) (hd : d < n := by decide) :
  Wk n S w0 L σ Φ (wpList P ops Q (Oper.mk (some d) (.box T x) ty pos aft none :: rest)) := fun _ w h => Zc (Qao h hx hd fun b a' w' h' => k b a' w' h')
theorem zz {d : Nat} {T : TypeId} {u : Value} (hz : ∀ w, (zeroValue T).run P w = .ok u w)
  (k : ∀ b, Wk n S w0 ((d, .pointer (some ⟨b, 0, none⟩)) :: L) ((b, .cells u.cells T (0, 0)) :: σ) Φ (wpList P ops Q rest)) (hd : d < n := by decide) :
  Wk n S w0 L σ Φ (wpList P ops Q (Oper.mk (some d) (.alloc T) ty pos aft none :: rest)) := fun _ w h => Zc (Gk h hz hd fun b a' w' h' => k b a' w' h')
theorem zB {d : Nat} {T : TypeId} {len : Nat} {parts : Array (Nat × Operand)} {cap : Nat} {cs : Array Value} {E : TypeId}
  (vs : List (Nat × Value)) (hp : parts.toList.map (fun p => (p.1, Fx.ev L p.2)) = vs.map (fun p => (p.1, some p.2)))
  (hr : ∀ w, (Instr.buildSlice T len vs.toArray).run P w = .ok (.slice (some ⟨w.heap.size, 0, none⟩) len cap) (w.alloc (.cells cs E (0, 0))))
  (k : ∀ b, Wk n S w0 ((d, .slice (some ⟨b, 0, none⟩) len cap) :: L) ((b, .cells cs E (0, 0)) :: σ) Φ (wpList P ops Q rest)) (hd : d < n := by decide) :
  Wk n S w0 L σ Φ (wpList P ops Q (Oper.mk (some d) (.buildSlice T len parts) ty pos aft none :: rest)) := fun _ w h => Zc (Zk6 h vs hp hr hd fun b a' w' h' => k b a' w' h')
theorem zd {d : Nat} {T : TypeId} {x : Operand} {b off : Nat} {cs : Array Value} {Tb : TypeId} {fr : Nat × Nat} {agg : Bool} {s : Nat} {v : Value}
  (hx : Fx.ev L x = some (.pointer (some ⟨b, off, none⟩))) (hm : (b, Obj.cells cs Tb fr) ∈ σ) (hagg : ∀ w, (isAgg T).run P w = .ok agg w) (hs : ∀ w, (Go.sizeOf T).run P w = .ok s w)
  (hv : Qe agg s cs off = some v) (k : Wk n S w0 ((d, v) :: L) σ Φ (wpList P ops Q rest)) (hd : d < n := by decide) :
  Wk n S w0 L σ Φ (wpList P ops Q (Oper.mk (some d) (.load T x) ty pos aft none :: rest)) := fun _ w h => Zc (Qd h hx hm hagg hs hv hd fun a' h' => k a' w h')
theorem zD {d : Nat} {T : TypeId} {x : Operand} {b off j : Nat} {M : List Value} {agg : Bool} {s : Nat} {v : Value}
  (hx : Fx.ev L x = some (.pointer (some ⟨b, off + j, none⟩))) (hm : Row (some ⟨b, off, none⟩) M ∈ Φ) (hne : j < M.length) (hagg : ∀ w, (isAgg T).run P w = .ok agg w) (hs : ∀ w, (Go.sizeOf T).run P w = .ok s w)
  (hv : Qe agg s M.toArray j = some v) (hs1 : agg = true ∨ s = 1) (k : Wk n S w0 ((d, v) :: L) σ Φ (wpList P ops Q rest)) (hd : d < n := by decide) :
  Wk n S w0 L σ Φ (wpList P ops Q (Oper.mk (some d) (.load T x) ty pos aft none :: rest)) := fun _ w h => Zc (Jw h hx hm hne hagg hs hv hs1 hd fun a' h' => k a' w h')
theorem zt' {T : TypeId} {x y : Operand} {b off : Nat} {cs : Array Value} {Tb : TypeId} {s : Nat} {v : Value} {σ' : List (Nat × Obj)} {cs' : Array Value}
  (hx : Fx.ev L x = some (.pointer (some ⟨b, off, none⟩))) (hy : Fx.ev L y = some v) (hset : Qc cs off v.cells.toList = cs')
  (hu : Upd σ b (.cells cs Tb (0, 0)) (.cells cs' Tb (0, 0)) σ') (hs : ∀ w, (Go.sizeOf T).run P w = .ok s w) (hsz : v.cells.size = s) (hle : off + s ≤ cs.size) (hfl : v.cells.toList.all flat = true)
  (k : Wk n S w0 L σ' Φ (wpList P ops Q rest)) : Wk n S w0 L σ Φ (wpList P ops Q (Oper.mk none (.store T x y) ty pos aft none :: rest)) := fun _ w h => Zc (Vq h hx hy hset hu hs hsz hle hfl fun a' w' h' => k a' w' h')
theorem yD {id : Nat} {l : List Oper} (hm : P.follows .mixedOrders = true) (H : List Nat) (hfl : Zah P l.toArray n H L)
  (hH : Head P l.toArray n S w0 Q H L σ Φ)
  (hchk : (Region.noSelect l.toArray && Znb l.toArray && onOK l.toArray && decide (H.Nodup) && decide (H.length = l.length) && H.all (fun i => decide (i < l.length))) = true := by kernel_rfl) :
  Wk n S w0 L σ Φ ((Code.region id l.toArray true).wp P Q) := fun _ _ h => Zhf hm h H L (fun _ _ hh => hh) hchk hfl hH
variable {H : List Nat} {Kf : Exit → Act → World → Prop} {i d : Nat}
theorem yp {op : Op} {v : Value}
  (ho : ops[i]? = some ⟨some d, op, ty, pos, aft, none⟩) (hp : Pure1 P L op v) (k : Head P ops n S w0 Kf H ((d, v) :: L) σ Φ) (hq : Kz ops false i H = true := by kernel_rfl) (hd : d < n := by decide) :
  Head P ops n S w0 Kf (i :: H) L σ Φ := Xj ho hq hp hd k
theorem yq {j t : Nat} {want : Bool} {op : Op} {v : Value}
  (ho : ops[i]? = some ⟨some d, op, ty, pos, aft, some (j, want)⟩) (hj : (ops[j]?).bind (·.dst) = some t) (ht : look L t = some (.bool want))
  (hp : Pure1 P L op v) (k : Head P ops n S w0 Kf H ((d, v) :: L) σ Φ) (hq : Kz ops false i H = true := by kernel_rfl) (hd : d < n := by decide) :
  Head P ops n S w0 Kf (i :: H) L σ Φ := Zsq ho hj ht hq hp hd k
theorem yo (t : Nat) {j : Nat} {want c : Bool} {op : Op} {ty : TypeId} {pos : String} {aft : Array Edge}
  (ho : ops[i]? = some ⟨some d, op, ty, pos, aft, some (j, want)⟩) (hj : (ops[j]?).bind (·.dst) = some t) (ht : look L t = some (.bool c)) (hne : (c == want) = false)
  (k : Head P ops n S w0 Kf H ((d, undef) :: L) σ Φ) (hq : Kz ops false i H = true := by kernel_rfl) (hd : d < n := by decide) :
  Head P ops n S w0 Kf (i :: H) L σ Φ := Zvv ho hj ht hne hq hd k
theorem yv {f : FuncId} {args : Array Operand} {tys : Array TypeId} (vs : List Value) {v : Value}
  (ho : ops[i]? = some ⟨some d, .call ⟨.value (.func f), args, tys⟩, ty, pos, aft, none⟩) (ha : args.toList.map (Fx.ev L) = vs.map some)
  (hc : ∀ args w, (callFunc f args).run P w = .ok (.enter f args) w) (hf : Xm P f vs v)
  (k : Head P ops n S w0 Kf H ((d, v) :: L) σ Φ) (hq : Gl ops i H = true := by kernel_rfl) (hd : d < n := by decide) : Head P ops n S w0 Kf (i :: H) L σ Φ := Ys ho hq ha hc hf hd k
theorem yw {f : FuncId} {args : Array Operand} {tys : Array TypeId} (vs : List Value) {v : Value} {Φ' : List Qf}
  (ho : ops[i]? = some ⟨some d, .call ⟨.value (.func f), args, tys⟩, ty, pos, aft, none⟩) (ha : args.toList.map (Fx.ev L) = vs.map some)
  (hc : ∀ args w, (callFunc f args).run P w = .ok (.enter f args) w) (hf : Gh P f vs Φ' v)
  (k : Head P ops n S w0 Kf H ((d, v) :: L) σ Φ) (hsub : ∀ R ∈ Φ', R ∈ Φ := by simp) (hq : Gl ops i H = true := by kernel_rfl) (hd : d < n := by decide) : Head P ops n S w0 Kf (i :: H) L σ Φ := Za9 ho hq ha hc hf hsub hd k
theorem yf {f : FuncId} {args : Array Operand} {tys : Array TypeId} (vs : List Value) {Φ' : List Qf} {post : Value → List Qf → Prop}
  (ho : ops[i]? = some ⟨some d, .call ⟨.value (.func f), args, tys⟩, ty, pos, aft, none⟩) (ha : args.toList.map (Fx.ev L) = vs.map some)
  (hc : ∀ args w, (callFunc f args).run P w = .ok (.enter f args) w) (hf : Ctr P f vs Φ' post)
  (k : ∀ v Ψ, post v Ψ → Head P ops n S w0 Kf H ((d, v) :: L) σ (Ψ ++ Φ)) (hsub : ∀ R ∈ Φ', R ∈ Φ := by simp) (hq : Gl ops i H = true := by kernel_rfl) (hd : d < n := by decide) : Head P ops n S w0 Kf (i :: H) L σ Φ := Xa ho hq ha hc hf hsub hd k
theorem yz {T : TypeId} {z : Value} {ty : TypeId} {pos : String} {aft : Array Edge}
  (ho : ops[i]? = some ⟨some d, .alloc T, ty, pos, aft, none⟩) (hz : ∀ w, (zeroValue T).run P w = .ok z w)
  (k : ∀ b, Head P ops n S w0 Kf H ((d, .pointer (some ⟨b, 0, none⟩)) :: L) ((b, .cells z.cells T (0, 0)) :: σ) Φ) (hq : Zlp ops i H = true := by kernel_rfl) (hd : d < n := by decide) : Head P ops n S w0 Kf (i :: H) L σ Φ := Zeo ho hq hz hd k
theorem yB {T : TypeId} {len : Nat} {parts : Array (Nat × Operand)} {cap : Nat} {cs : Array Value} {E : TypeId}
  (ho : ops[i]? = some ⟨some d, .buildSlice T len parts, ty, pos, aft, none⟩) (vs : List (Nat × Value)) (hp : parts.toList.map (fun p => (p.1, Fx.ev L p.2)) = vs.map (fun p => (p.1, some p.2)))
  (hr : ∀ w, (Instr.buildSlice T len vs.toArray).run P w = .ok (.slice (some ⟨w.heap.size, 0, none⟩) len cap) (w.alloc (.cells cs E (0, 0))))
  (k : ∀ b, Head P ops n S w0 Kf H ((d, .slice (some ⟨b, 0, none⟩) len cap) :: L) ((b, .cells cs E (0, 0)) :: σ) Φ) (hq : Gl ops i H = true := by kernel_rfl) (hd : d < n := by decide) : Head P ops n S w0 Kf (i :: H) L σ Φ := Ziw ho hq vs hp hr hd k
theorem yd {x : Operand} {T : TypeId} {b off : Nat} {cs : Array Value} {Tb : TypeId} {fr : Nat × Nat} {agg : Bool} {s : Nat} {v : Value}
  (ho : ops[i]? = some ⟨some d, .load T x, ty, pos, aft, none⟩)
  (hx : Fx.ev L x = some (.pointer (some ⟨b, off, none⟩))) (hm : (b, Obj.cells cs Tb fr) ∈ σ) (hagg : ∀ w, (isAgg T).run P w = .ok agg w) (hs : ∀ w, (Go.sizeOf T).run P w = .ok s w)
  (hv : Qe agg s cs off = some v) (k : Head P ops n S w0 Kf H ((d, v) :: L) σ Φ) (hq : Kz ops true i H = true := by kernel_rfl) (hd : d < n := by decide) : Head P ops n S w0 Kf (i :: H) L σ Φ := Ya ho hq hx hm hagg hs hv hd k
theorem yg {j t : Nat} {want : Bool} {x : Operand} {T : TypeId} {b off : Nat} {cs : Array Value} {Tb : TypeId} {fr : Nat × Nat} {agg : Bool} {s : Nat} {v : Value}
  (ho : ops[i]? = some ⟨some d, .load T x, ty, pos, aft, some (j, want)⟩) (hj : (ops[j]?).bind (·.dst) = some t) (ht : look L t = some (.bool want))
  (hx : Fx.ev L x = some (.pointer (some ⟨b, off, none⟩))) (hm : (b, Obj.cells cs Tb fr) ∈ σ) (hagg : ∀ w, (isAgg T).run P w = .ok agg w) (hs : ∀ w, (Go.sizeOf T).run P w = .ok s w)
  (hv : Qe agg s cs off = some v) (k : Head P ops n S w0 Kf H ((d, v) :: L) σ Φ) (hq : Kz ops true i H = true := by kernel_rfl) (hd : d < n := by decide) : Head P ops n S w0 Kf (i :: H) L σ Φ := Zsr ho hj ht hq hx hm hagg hs hv hd k
theorem yt {x y : Operand} {T : TypeId} {b off : Nat} {cs : Array Value} {Tb : TypeId} {s : Nat} {v : Value} {σ' : List (Nat × Obj)} {cs' : Array Value}
  (ho : ops[i]? = some ⟨none, .store T x y, ty, pos, aft, none⟩)
  (hx : Fx.ev L x = some (.pointer (some ⟨b, off, none⟩))) (hy : Fx.ev L y = some v) (hset : Qc cs off v.cells.toList = cs')
  (hu : Upd σ b (.cells cs Tb (0, 0)) (.cells cs' Tb (0, 0)) σ') (hs : ∀ w, (Go.sizeOf T).run P w = .ok s w) (hsz : v.cells.size = s) (hle : off + s ≤ cs.size) (hfl : v.cells.toList.all flat = true)
  (k : Head P ops n S w0 Kf H L σ' Φ) (hq : Gl ops i H = true := by kernel_rfl) : Head P ops n S w0 Kf (i :: H) L σ Φ := Za8 ho hq hx hy hset hu hs hsz hle hfl k
theorem yn (k : Wk n S w0 L σ Φ (Kf .normal)) : Head P ops n S w0 Kf [] L σ Φ := Zfu k
end
section
variable {P : Program} {L : List (Nat × Value)} {T T' : TypeId} {X Y : Operand} {k : IntKind} {x y : Int}
theorem Pure1.add (hx : Fx.ev L X = some (.int .i64 x)) (hy : Fx.ev L Y = some (.int .i64 y)) (h0 : -9223372036854775808 ≤ x + y := by omega) (h1 : x + y ≤ 9223372036854775807 := by omega) : Pure1 P L (.binOp .add T X Y T') (.int .i64 (x + y)) := .binOp hx hy (fun _ => Ki _ _ _ _ _ (wrap_i64 _ h0 h1))
theorem Pure1.sub (hx : Fx.ev L X = some (.int .i64 x)) (hy : Fx.ev L Y = some (.int .i64 y)) (h0 : -9223372036854775808 ≤ x - y := by omega) (h1 : x - y ≤ 9223372036854775807 := by omega) : Pure1 P L (.binOp .sub T X Y T') (.int .i64 (x - y)) := .binOp hx hy (fun _ => Zhh _ _ _ _ _ (wrap_i64 _ h0 h1))
theorem Pure1.mul (hx : Fx.ev L X = some (.int .i64 x)) (hy : Fx.ev L Y = some (.int .i64 y)) (h0 : -9223372036854775808 ≤ x * y := by omega) (h1 : x * y ≤ 9223372036854775807 := by omega) : Pure1 P L (.binOp .mul T X Y T') (.int .i64 (x * y)) := .binOp hx hy (fun _ => Zx4 _ _ _ _ _ (wrap_i64 _ h0 h1))
theorem Pure1.lss (hx : Fx.ev L X = some (.int k x)) (hy : Fx.ev L Y = some (.int k y)) : Pure1 P L (.binOp .lss T X Y T') (.bool (decide (x < y))) := .binOp hx hy (fun _ => Zh7 _ _ _ _ _)
theorem Pure1.leq (hx : Fx.ev L X = some (.int k x)) (hy : Fx.ev L Y = some (.int k y)) : Pure1 P L (.binOp .leq T X Y T') (.bool (decide (x ≤ y))) := .binOp hx hy (fun _ => Qbm _ _ _ _ _)
theorem Pure1.gtr (hx : Fx.ev L X = some (.int k x)) (hy : Fx.ev L Y = some (.int k y)) : Pure1 P L (.binOp .gtr T X Y T') (.bool (decide (x > y))) := .binOp hx hy (fun _ => Qbn _ _ _ _ _)
theorem Pure1.geq (hx : Fx.ev L X = some (.int k x)) (hy : Fx.ev L Y = some (.int k y)) : Pure1 P L (.binOp .geq T X Y T') (.bool (decide (x ≥ y))) := .binOp hx hy (fun _ => Qbo _ _ _ _ _)
theorem Pure1.eql (hx : Fx.ev L X = some (.int k x)) (hy : Fx.ev L Y = some (.int k y)) : Pure1 P L (.binOp .eql T X Y T') (.bool (x == y)) := .binOp hx hy (fun _ => Zky _ _ _ _ _)
theorem Pure1.neq (hx : Fx.ev L X = some (.int k x)) (hy : Fx.ev L Y = some (.int k y)) : Pure1 P L (.binOp .neq T X Y T') (.bool (x != y)) := .binOp hx hy (fun _ => Qbk _ _ _ _ _)
end
abbrev nI (n : Nat) : Value := .int .i64 ((n : Nat) : Int)
abbrev pB (b : Nat) : Value := .pointer (some ⟨b, 0, none⟩)
abbrev bV (v : Value) (T : TypeId) : Obj := .cells (Value.cells v) T (0, 0)
theorem lA {a b : Nat} (h : a = b := by simp only [List.length_append, List.length_cons, List.length_nil, Nat.zero_add]) : a = b := h
theorem dT {p q : Prop} [Decidable p] (h : decide p = true) (k : p → q := by intro h; omega) : q := k (of_decide_eq_true h)
theorem dF {p q : Prop} [Decidable p] (h : decide p = false) (k : ¬ p → q := by intro h; omega) : q := k (of_decide_eq_false h)
theorem cW {P : Program} {c : Code} {Q : Exit → Act → World → Prop} {a : Act} {w : World} (h : Code.wp P c Q a w) : Code.wp P c Q a w := h
section
variable {P : Program} {n : Nat} {S : Nat → Prop} {w0 : World} {L : List (Nat × Value)} {σ : List (Nat × Obj)} {Φ : List Qf} {a : Act} {w : World} {ops : Array Oper} {fn : Func} {v u : Value} {t : Nat} {Q : Exit → Act → World → Prop}
theorem retW (h : St n S w0 L σ Φ a w) (hr : (results fn a.tmps).run P w = .ok u w) (hv : u = v) : wpList P ops (Exit.then (Code.ret.wp P (bodyPost P fn (Zzv S w0 (fun u Ψ => u = v ∧ Ψ = [])))) Q) [] a w := wpList_nil (wp_ret (Xd h hr hv))
theorem Zdj (h : St n S w0 L σ Φ a w) (hr : fn.results = #[.tmp t] := by exact rfl) (ht : look L t = some u := by exact rfl) (hv : u = v := by rfl) : bodyPost P fn (Zzv S w0 (fun u Ψ => u = v ∧ Ψ = [])) .ret a w := Xd h (Zk h hr (.tmp ht)) hv
theorem retX (h : St n S w0 L σ Φ a w) (hr : fn.results = #[.tmp t] := by exact rfl) (ht : look L t = some u := by exact rfl) (hv : u = v := by rfl) : wpList P ops (Exit.then (Code.ret.wp P (bodyPost P fn (Zzv S w0 (fun u Ψ => u = v ∧ Ψ = [])))) Q) [] a w := retW h (Zk h hr (.tmp ht)) hv
end
theorem nE {α : Type} {enc : α → Value} {l : List α} (k : Nat) (h : l.length ≠ 0 := by omega) (h0 : k ≠ 0 := by decide) (hk : ∀ x, (enc x).cells.size = k := by exact fun _ => rfl) : cellsOf enc l ≠ [] := by
 intro e; have := congrArg List.length e; rw [cellsOf_length hk] at this; simp only [List.length_nil, Nat.mul_eq_zero] at this; omega
theorem nF {α : Type} {f : α → Value} {l : List α} (h : l.length ≠ 0 := by omega) : List.map f l ≠ [] := by
 intro e; have := congrArg List.length e; simp only [List.length_map, List.length_nil] at this; omega
theorem zS {P : Program} {n : Nat} {S : Nat → Prop} {w0 : World} {L : List (Nat × Value)} {σ : List (Nat × Obj)} {Φ : List Qf} {Q : Exit → Act → World → Prop} {id : Nat} {l : List Oper} {c2 : Code} (k : Wk n S w0 L σ Φ (wpList P l.toArray (Exit.then (c2.wp P Q) Q) l)) : Wk n S w0 L σ Φ ((Code.seq (Code.region id l.toArray false) c2).wp P Q) := zs (zr k)
section
variable {P : Program} {L : List (Nat × Value)} {n : Nat} {S : Nat → Prop} {w0 : World} {σ : List (Nat × Obj)} {Φ : List Qf}
theorem Pure1.pN (X : Nat) {op : Op} {v : Value} (c : Pure1 P L op v) (h : v = .int .i64 ((X : Nat) : Int) := by show Value.int _ _ = Value.int _ _; congr 1) : Pure1 P L op (.int .i64 ((X : Nat) : Int)) := Pure1.cast c h
theorem Pure1.pO (X : Nat) {op : Op} {v : Value} (c : Pure1 P L op v) (h : v = .int .i64 ((X : Nat) : Int) := by show Value.int _ _ = Value.int _ _; congr 1; omega) : Pure1 P L op (.int .i64 ((X : Nat) : Int)) := Pure1.cast c h
theorem Pure1.pQ (X : Nat) {op : Op} {v : Value} (c : Pure1 P L op v) (h : v = .int .i64 ((X : Nat) : Int) := by show Value.int _ _ = Value.int _ _; congr 1 <;> omega) : Pure1 P L op (.int .i64 ((X : Nat) : Int)) := Pure1.cast c h
theorem Pure1.fA {T : TypeId} {x : Operand} {f : Nat} {u v : Value} (hx : Fx.ev L x = some u) (hr : ∀ w, (Instr.fieldAt T u f).run P w = .ok v w) : Pure1 P L (.fieldAddr T x f) v := .fieldAddr hx hr
theorem Pure1.eX {x : Operand} {k : Nat} {u v : Value} (hx : Fx.ev L x = some u) (hr : ∀ w, (Instr.extract u k).run P w = .ok v w := by exact fun _ => rfl) : Pure1 P L (.extract x k) v := .extract hx hr
theorem ym {ops : Array Oper} {H : List Nat} {Kf : Exit → Act → World → Prop} {i d : Nat} {x : Operand} {v : Value}
  (ho : ops[i]? = some ⟨some d, .move x, ty, pos, aft, none⟩) (hx : Fx.ev L x = some v) (k : Head P ops n S w0 Kf H ((d, v) :: L) σ Φ) (hq : Kz ops false i H = true := by kernel_rfl) (hd : d < n := by decide) :
  Head P ops n S w0 Kf (i :: H) L σ Φ := Xj ho hq (.move hx) hd k
end
end Go.Fx
