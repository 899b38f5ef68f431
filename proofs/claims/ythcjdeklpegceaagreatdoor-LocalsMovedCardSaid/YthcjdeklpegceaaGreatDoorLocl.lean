/- Walks of functions. By an AI agent. -/
import Derived.Test.YthcjdeklpegceaaGreatDoorLocj
set_option linter.unusedVariables false
set_option linter.unusedSimpArgs false
set_option maxRecDepth 4000
namespace Go.Proofs.YthcjdeklpegceaaGreatDoor
open Go Go.Proofs Go.Fx Tryz
attribute [local irreducible] Oper.wp Code.wp wpList Fx.Head wpOp Qc
section
theorem ixd {p : Prop} (h : p := by first | omega | decide | simp) : p := h
theorem hsC {α : Type _} {a : α} {l L : List α} (t : ∀ R ∈ l, R ∈ L) (h : a ∈ L := by first | assumption | (repeat (first | exact List.Mem.head _ | apply List.Mem.tail | apply List.mem_append_right))) : ∀ R ∈ a :: l, R ∈ L := fun R hR => by
 rcases List.mem_cons.1 hR with e | e
 · rw [e]; exact h
 · exact t R e
theorem hsA {α : Type _} {l L : List α} (h : ∀ R ∈ l, R ∈ L := by repeat (first | exact (fun _ hR => absurd hR List.not_mem_nil) | refine hsC ?_)) : ∀ R ∈ l, R ∈ L := h
theorem Zte (x : Rat) {K : Nat} (h : Zu x ≤ K) : Pq 0 (K + 2) (norm [(⟨0, 0, x⟩ : Tm)]) := by
 have := Pq.raw (d := 0) (k := K) (m := 1) (l := [(⟨0, 0, x⟩ : Tm)]) (fun t ht => by rcases List.mem_singleton.1 ht with rfl; exact Nat.le_refl _) (fun t ht => by rcases List.mem_singleton.1 ht with rfl; exact h) (Nat.le_refl _) dd
 exact (this.nrm dd).mono (Nat.le_refl _) oo
theorem pq_x : Pq 1 4 [(⟨1, 0, ((1 : Int) : Rat)⟩ : Tm)] :=
 Pq.raw (d := 1) (k := 2) (m := 1) (fun t ht => by rcases List.mem_singleton.1 ht with rfl; exact Nat.le_refl _) (fun t ht => by rcases List.mem_singleton.1 ht with rfl; exact Zs 1 dd dd) (Nat.le_refl _) dd
theorem pq_y : Pq 1 4 [(⟨0, 1, ((1 : Int) : Rat)⟩ : Tm)] :=
 Pq.raw (d := 1) (k := 2) (m := 1) (fun t ht => by rcases List.mem_singleton.1 ht with rfl; exact Nat.le_refl _) (fun t ht => by rcases List.mem_singleton.1 ht with rfl; exact Zs 1 dd dd) (Nat.le_refl _) dd
theorem Gt {q : Rat} {g : Pt} {K : Nat} (hq : Zu q ≤ K) (hg : PtK K g) : Pq 1 (3 * K + 16) (Gu q g) := by
 have h1 := pq_x.scale (c := g.1) hg.1 dd
 have h2 := pq_y.scale (c := g.2) hg.2 dd
 exact ((Zte q hq).add (h1.add h2 dd dd) dd dd).mono dd oo
theorem Zq8 {pa pb pc : Pt} {K : Nat} (ha : PtK K pa) (hb : PtK K pb) (hc : PtK K pc) (hK : 2 ≤ K) : Zu (Zan pa pb pc (0, 0)).1 ≤ 16 * K + 10 ∧ Zu (Zan pa pb pc (0, 0)).2.1 ≤ 16 * K + 10 ∧ Zu (Zan pa pb pc (0, 0)).2.2 ≤ 16 * K + 10 := by
 have h0 : Zu ((0 : Rat), (0 : Rat)).1 ≤ 2 ∧ Zu ((0 : Rat), (0 : Rat)).2 ≤ 2 := ⟨Vh, Vh⟩
 obtain ⟨ha1, ha2⟩ := ha
 obtain ⟨hb1, hb2⟩ := hb
 obtain ⟨hc1, hc2⟩ := hc
 have t := Kw pa pb pc
 have t1 := Kw (0, 0) pb pc
 have t2 := Kw pa (0, 0) pc
 have t3 := Kw pa pb (0, 0)
 have d1 := Ym (twP (0, 0) pb pc) (twP pa pb pc)
 have d2 := Ym (twP pa (0, 0) pc) (twP pa pb pc)
 have d3 := Ym (twP pa pb (0, 0)) (twP pa pb pc)
 exact ⟨by simp only [Zan]; omega, by simp only [Zan]; omega, by simp only [Zan]; omega⟩
theorem Zre (q : Rat) (g : Pt) (K : Nat) (hq : Zu q ≤ K) (hg : PtK K g) (hK : K ≤ 100000) : Ctr Tryz.prog 42 [Zr q, encPt g] [] (fun v Ψ => ∃ ad' c', v = .slice ad' (Gu q g).length c' ∧ Ψ = [Row ad' (cellsOf Qh (Gu q g))]) := by
 refine fn_intro func42 rfl ntmps42 nb ?_
 intro S w0 a hS h
 refine gC h (zS (zx rfl fun b2 => zx rfl fun b3 => za rfl (zn (zs (yD Za [0, 3, 4, 7, 8, 1, 2, 5, 6, 9, 10, 11, 12] (Zd kk) (yd rfl rfl mr isAgg41 sizeOf41 Zh ?_)))))); clear h
 refine yp rfl (.fA rfl Yu) (yd rfl rfl mr isAgg41 sizeOf41 Jf ?_)
 refine yp rfl (.fA rfl Yt) (yd rfl rfl mr isAgg41 sizeOf41 Je ?_)
 refine Xa rfl kk (vs := [_]) rfl call35 (Zce q K hq oo) (by exact hsA) dd ?_; rintro v6 Ψ6 ⟨ad6, c6, rfl, rfl⟩
 refine Xa rfl kk (vs := []) rfl call99 (C_X) (by exact hsA) dd ?_; rintro v7 Ψ7 ⟨ad7, rfl, rfl⟩
 refine Xa rfl kk (vs := [_, _]) rfl call57 (Zl6 [(⟨1, 0, ((1 : Int) : Rat)⟩ : Tm)] _ _ 1 4 pq_x dd dd g.1 K hg.1 oo) (by exact hsA) dd ?_; rintro v10 Ψ10 ⟨ad10, c10, rfl, rfl⟩
 refine Xa rfl kk (vs := []) rfl call100 (C_Y) (by exact hsA) dd ?_; rintro v11 Ψ11 ⟨ad11, rfl, rfl⟩
 refine Xa rfl kk (vs := [_, _]) rfl call57 (Zl6 [(⟨0, 1, ((1 : Int) : Rat)⟩ : Tm)] _ _ 1 4 pq_y dd dd g.2 K hg.2 oo) (by exact hsA) dd ?_; rintro v14 Ψ14 ⟨ad14, c14, rfl, rfl⟩
 refine Xa rfl kk (vs := [_, _]) rfl call46 (Zgr (norm (Ja g.1 [(⟨1, 0, ((1 : Int) : Rat)⟩ : Tm)])) (norm (Ja g.2 [(⟨0, 1, ((1 : Int) : Rat)⟩ : Tm)])) _ _ _ _ 1 1 (K + 4 + 1) (K + 4 + 1) (pq_x.scale hg.1 dd) (pq_y.scale hg.2 dd) dd dd oo oo) (by exact hsA) dd ?_; rintro v15 Ψ15 ⟨ad15, c15, rfl, rfl⟩
 refine Xa rfl kk (vs := [_, _]) rfl call46 (Zgr (norm [(⟨0, 0, q⟩ : Tm)]) (norm (norm (Ja g.1 [(⟨1, 0, ((1 : Int) : Rat)⟩ : Tm)]) ++ norm (Ja g.2 [(⟨0, 1, ((1 : Int) : Rat)⟩ : Tm)]))) _ _ _ _ 0 1 (K + 2) (K + 4 + 1 + (K + 4 + 1) + 2) (Zte q hq) ((pq_x.scale hg.1 dd).add (pq_y.scale hg.2 dd) dd dd) dd dd oo oo) (by exact hsA) dd ?_; rintro v16 Ψ16 ⟨ad16, c16, rfl, rfl⟩
 refine yp rfl (.assign rfl) (yn (zt ?_)); intro a w h
 refine Xr (Ψ := [Row ad16 (cellsOf Qh (norm (norm [(⟨0, 0, q⟩ : Tm)] ++ norm (norm (Ja g.1 [(⟨1, 0, ((1 : Int) : Rat)⟩ : Tm)]) ++ norm (Ja g.2 [(⟨0, 1, ((1 : Int) : Rat)⟩ : Tm)])))))]) h (Zk h rfl (.tmp rfl)) ?_ ss
 exact ⟨ad16, c16, rfl, rfl⟩
end
section
theorem Zb7 (a : Option Addr) (n c : Nat) (w : World) (ty : TypeId) (cs : Array Bool) : (Go.builtin .len #[52] ty cs #[.slice a n c]).run Tryz.prog w = .ok (.value (.int .i64 n)) w := by
 simp [go_sem]
theorem Qcq (w : World) : (Instr.build 43 [].toArray).run Tryz.prog w = .ok (.agg #[.int .u64 0, .string ⟨#[]⟩, .bool false, .int .u64 0, .string ⟨#[]⟩, .int .u64 0, .string ⟨#[]⟩, .bool false, .int .u64 0, .string ⟨#[]⟩]) w := by simp [go_sem]
theorem Zm3 (b off : Nat) (w : World) : (Instr.indexAt 100 (.pointer (some ⟨b, off, none⟩)) (.int .i64 0)).run Tryz.prog w = .ok (.pointer (some ⟨b, off + 0, none⟩)) w := by
 simp [go_sem, Instr.indexAt]
theorem Zm2 (b off : Nat) (w : World) : (Instr.indexAt 100 (.pointer (some ⟨b, off, none⟩)) (.int .i64 1)).run Tryz.prog w = .ok (.pointer (some ⟨b, off + 1, none⟩)) w := by
 simp [go_sem, Instr.indexAt]
theorem Zm1 (b off : Nat) (w : World) : (Instr.indexAt 100 (.pointer (some ⟨b, off, none⟩)) (.int .i64 2)).run Tryz.prog w = .ok (.pointer (some ⟨b, off + 2, none⟩)) w := by
 simp [go_sem, Instr.indexAt]
theorem Zir (c0 c1 c2 : Value) (w : World) : (Instr.index 108 (.agg #[c0, c1, c2]) (.int .i64 0)).run Tryz.prog w = .ok (c0) w := by
 unfold Instr.index; simp [go_sem]
theorem Ziq (c0 c1 c2 : Value) (w : World) : (Instr.index 108 (.agg #[c0, c1, c2]) (.int .i64 1)).run Tryz.prog w = .ok (c1) w := by
 unfold Instr.index; simp [go_sem]
theorem Zip (c0 c1 c2 : Value) (w : World) : (Instr.index 108 (.agg #[c0, c1, c2]) (.int .i64 2)).run Tryz.prog w = .ok (c2) w := by
 unfold Instr.index; simp [go_sem]
theorem Zjd (x0 : Option Addr) (x0n : Nat) (x0c : Nat) (w : World) : (Instr.buildSlice 52 1 [(0, .slice x0 x0n x0c)].toArray).run Tryz.prog w = .ok (.slice (some ⟨w.heap.size, 0, none⟩) 1 1) (w.alloc (.cells #[.slice x0 x0n x0c] 65 (0, 0))) := by
 simp [go_sem]
theorem Zln {k : Nat} {E : TypeId} {ad : Option Addr} {m m' c : Nat} {xs : List Value} {o : List (Nat × Obj)} (h : GrowO k E (.slice ad m c) m' xs o) : m ≤ c := by
 obtain ⟨_, ⟨h, _, _⟩ | ⟨_, _, _, h, _, h3, _⟩⟩ := h
 · cases h; exact Nat.le_refl _
 · cases h; exact h3
theorem zeroLP (w : World) : (zeroValue 100).run Tryz.prog w = .ok (.agg #[.slice none 0 0, .slice none 0 0, .slice none 0 0]) w := zeroValue100 w
theorem Qd1 (ad : Option Addr) (n c : Nat) (hn : n ≤ c) (hc : n ≤ 1000) : Xm Tryz.prog 47 [.slice ad n c] (.slice ad n n) := by
 refine fn_intro func47 rfl ntmps47 nb ?_
 intro S w0 a hS h
 refine gC h (zS (za rfl (zn (zS (zm rfl (zm rfl (zp (.builtin [_] rfl (Zb7 _ _ _)) (zm rfl (zp (.builtin [_] rfl (Zb7 _ _ _)) (zp (.slice rfl none (some _) (some _) rfl rfl rfl (fun w => Zgu runUnderlying52 sizeOf65 _ _ _ hn w)) (za rfl (zn (zt ?_))))))))))))); clear h; intro a w h
 exact Zdj h
theorem Zxj (ad : Option Addr) (n c : Nat) (hn : n ≤ c) (hc : n ≤ 1000) : Xm Tryz.prog 89 [.slice ad n c] (.slice ad n n) := by
 refine fn_intro func89 rfl ntmps89 nb ?_
 intro S w0 a hS h
 refine gC h (zS (za rfl (zn (zS (zm rfl (zm rfl (zp (.builtin [_] rfl (Qn _ _ _)) (zm rfl (zp (.builtin [_] rfl (Qn _ _ _)) (zp (.slice rfl none (some _) (some _) rfl rfl rfl (fun w => Zgu runUnderlying50 sizeOf41 _ _ _ hn w)) (za rfl (zn (zt ?_))))))))))))); clear h; intro a w h
 exact Zdj h
theorem Zzr {pa pb pc : Pt} (ha : PtK 4 pa) (hb : PtK 4 pb) (hc : PtK 4 pc) : Pq 2 1200 (Zjf (Zhb pa pb pc) (Zha pa pb pc) (Zg9 pa pb pc) (Qw 1 0)) := by
 obtain ⟨r0, r1, r2⟩ := Zq8 ha hb hc dd
 obtain ⟨g0, g1, g2⟩ := Zgi ha hb hc
 have m := fun {g : Pt} (h : PtK (10 * 4 + 6) g) => h.mono (show 10 * 4 + 6 ≤ 74 by decide)
 have hq0 : Pq 1 238 (Zhb pa pb pc) := Gt (K := 74) r0 (m g0)
 have hq1 : Pq 1 238 (Zha pa pb pc) := Gt (K := 74) r1 (m g1)
 have hq2 : Pq 1 238 (Zg9 pa pb pc) := Gt (K := 74) r2 (m g2)
 have h0 : Pq 1 245 (norm (([] : List Tm) ++ norm (Jh (norm [(⟨0, 0, (Gi 1 [0]).c⟩ : Tm)]) (Zhb pa pb pc)))) := (Pq.mono (d' := 1) ((Pq.nil 0).add ((Zte ((Gi 1 [0]).c) (Zs _ dd dd)).mul hq0 dd) dd dd) dd (Nat.le_refl _))
 exact h0.mono dd dd
theorem Zzq {pa pb pc : Pt} (ha : PtK 4 pa) (hb : PtK 4 pb) (hc : PtK 4 pc) : Pq 2 1200 (Zjf (Zhb pa pb pc) (Zha pa pb pc) (Zg9 pa pb pc) (Qw 1 1)) := by
 obtain ⟨r0, r1, r2⟩ := Zq8 ha hb hc dd
 obtain ⟨g0, g1, g2⟩ := Zgi ha hb hc
 have m := fun {g : Pt} (h : PtK (10 * 4 + 6) g) => h.mono (show 10 * 4 + 6 ≤ 74 by decide)
 have hq0 : Pq 1 238 (Zhb pa pb pc) := Gt (K := 74) r0 (m g0)
 have hq1 : Pq 1 238 (Zha pa pb pc) := Gt (K := 74) r1 (m g1)
 have hq2 : Pq 1 238 (Zg9 pa pb pc) := Gt (K := 74) r2 (m g2)
 have h0 : Pq 1 245 (norm (([] : List Tm) ++ norm (Jh (norm [(⟨0, 0, (Gi 1 [1]).c⟩ : Tm)]) (Zha pa pb pc)))) := (Pq.mono (d' := 1) ((Pq.nil 0).add ((Zte ((Gi 1 [1]).c) (Zs _ dd dd)).mul hq1 dd) dd dd) dd (Nat.le_refl _))
 exact h0.mono dd dd
theorem Zzp {pa pb pc : Pt} (ha : PtK 4 pa) (hb : PtK 4 pb) (hc : PtK 4 pc) : Pq 2 1200 (Zjf (Zhb pa pb pc) (Zha pa pb pc) (Zg9 pa pb pc) (Qw 1 2)) := by
 obtain ⟨r0, r1, r2⟩ := Zq8 ha hb hc dd
 obtain ⟨g0, g1, g2⟩ := Zgi ha hb hc
 have m := fun {g : Pt} (h : PtK (10 * 4 + 6) g) => h.mono (show 10 * 4 + 6 ≤ 74 by decide)
 have hq0 : Pq 1 238 (Zhb pa pb pc) := Gt (K := 74) r0 (m g0)
 have hq1 : Pq 1 238 (Zha pa pb pc) := Gt (K := 74) r1 (m g1)
 have hq2 : Pq 1 238 (Zg9 pa pb pc) := Gt (K := 74) r2 (m g2)
 have h0 : Pq 1 245 (norm (([] : List Tm) ++ norm (Jh (norm [(⟨0, 0, (Gi 1 [2]).c⟩ : Tm)]) (Zg9 pa pb pc)))) := (Pq.mono (d' := 1) ((Pq.nil 0).add ((Zte ((Gi 1 [2]).c) (Zs _ dd dd)).mul hq2 dd) dd dd) dd (Nat.le_refl _))
 exact h0.mono dd dd
set_option maxHeartbeats 2000000 in
theorem Qah (pa pb pc : Pt) (ha : PtK 4 pa) (hb : PtK 4 pb) (hc : PtK 4 pc) (hT : 0 < (twP pa pb pc).num.sign) : Ctr Tryz.prog 9 [.int .i64 1, Jb pa pb pc] [SideF] (fun v Ψ => ∃ ad' a0 c0 a1 c1 a2 c2, v = .tuple #[.slice ad' 3 3, .int .i64 0] ∧ Ψ = [Row ad' (List.map Vv [(⟨a0, (Zjf (Zhb pa pb pc) (Zha pa pb pc) (Zg9 pa pb pc) (Qw 1 0)).length, c0⟩ : Vs), (⟨a1, (Zjf (Zhb pa pb pc) (Zha pa pb pc) (Zg9 pa pb pc) (Qw 1 1)).length, c1⟩ : Vs), (⟨a2, (Zjf (Zhb pa pb pc) (Zha pa pb pc) (Zg9 pa pb pc) (Qw 1 2)).length, c2⟩ : Vs)]), Row a0 (cellsOf Qh (Zjf (Zhb pa pb pc) (Zha pa pb pc) (Zg9 pa pb pc) (Qw 1 0))), Row a1 (cellsOf Qh (Zjf (Zhb pa pb pc) (Zha pa pb pc) (Zg9 pa pb pc) (Qw 1 1))), Row a2 (cellsOf Qh (Zjf (Zhb pa pb pc) (Zha pa pb pc) (Zg9 pa pb pc) (Qw 1 2)))]) := by
 obtain ⟨r0, r1, r2⟩ := Zq8 ha hb hc dd
 obtain ⟨g0, g1, g2⟩ := Zgi ha hb hc
 have m := fun {g : Pt} (h : PtK (10 * 4 + 6) g) => h.mono (show 10 * 4 + 6 ≤ 74 by decide)
 obtain ⟨ha1, ha2⟩ := id ha
 obtain ⟨hb1, hb2⟩ := id hb
 obtain ⟨hc1, hc2⟩ := id hc
 refine fn_intro func9 rfl ntmps9 nb ?_
 intro S w0 a hS h
 replace h := h.derive (R := Row none (cellsOf Qh [])) (fun X _ hne => absurd rfl hne)
 refine gC h (zS (zx rfl fun b3 => za rfl (za rfl (zn (zs (zS (zm rfl (zd rfl mr isAgg44 sizeOf44 Qz ?_))))))))
 refine zv [_, _] rfl call39 (Zw1 1 4 dd pa pb pc ha hb hc dd hT) (zp (Pure1.cast (v' := .bool false) (.unOp rfl (Yp _)) cgd) (zn ?_)); intro a w h
 refine cW ?_
 refine Zf h rfl ?_
 refine gC h (zk (zS (zp (.indexAddr rfl rfl (Xu _ _)) (zd rfl mr isAgg43 sizeOf43 Jy ?_))))
 refine zp (.indexAddr rfl rfl (Xh _ _)) (zd rfl mr isAgg43 sizeOf43 Jn ?_)
 refine zp (.indexAddr rfl rfl (Xg _ _)) (zd rfl mr isAgg43 sizeOf43 Jm ?_)
 refine zp (.build [] rfl (Qcq)) (zv [_, _, _, _] rfl call40 (Zzz pa pb pc (0, 0) oo oo oo oo oo oo (by have := Vh; simp only; omega) (by have := Vh; simp only; omega) (Zrq hT)) (zm rfl (zp (.eX rfl) (zp (.eX rfl) (zz Ztj fun b6 => zt' rfl rfl Zeh uu sizeOf60 rfl nb rfl ?_)))))
 refine za rfl (zn (zS (zp (.indexAddr rfl rfl (Xu _ _)) (zd rfl mr isAgg43 sizeOf43 Jy ?_))))
 refine zp (.indexAddr rfl rfl (Xh _ _)) (zd rfl mr isAgg43 sizeOf43 Jn ?_)
 refine zp (.indexAddr rfl rfl (Xg _ _)) (zd rfl mr isAgg43 sizeOf43 Jm ?_)
 refine zv [_, _, _] rfl call41 (Znr pa pb pc oo oo oo oo oo oo (Zrq hT)) (zm rfl (zp (.eX rfl) (zp (.eX rfl) (zz Zcl fun b8 => zt' rfl rfl Vl uu sizeOf44 rfl nb rfl ?_))))
 refine za rfl (zn (zS (zz zeroLP fun b10 => zn (zs (zS (zm rfl (zn (zb ?_)))))))); intro a w h
 refine wp_loop_rounds 4 ?_
 refine Ze ?_
 refine gC h (zS (zp (Pure1.cast (v' := .bool true) (.lss rfl rfl) cgd) (zn (zs ?_)))); clear h; intro a w h
 refine Zi h rfl ?_
 refine gC h (zk (zs (zb (zS (zm rfl (za rfl (zn (yD Za [0, 1, 2, 3, 4, 5, 6, 7, 8, 9] (Zd kk) (ym rfl rfl (ym rfl rfl (yp rfl (.indexAddr rfl rfl (Yg _ _)) (yd rfl rfl mr isAgg41 sizeOf41 Zdt ?_)))))))))))); clear h
 refine ym rfl rfl (yp rfl (.indexAddr rfl rfl (Xu _ _)) (yd rfl rfl mr isAgg43 sizeOf43 Jy ?_))
 refine Xa rfl kk (vs := [_, _]) rfl call42 (Zre (Zan pa pb pc (0, 0)).1 (Zb pa pb pc).1 74 r0 (m g0) dd) (by exact hsA) dd ?_; rintro v57 Ψ57 ⟨ad57_0, c57_0, rfl, rfl⟩
 obtain ⟨L0, hL0⟩ : ∃ G, Gu (Zan pa pb pc (0, 0)).1 (Zb pa pb pc).1 = G := ⟨_, rfl⟩
 rw [hL0]
 have hq0 : Pq 1 238 L0 := hL0 ▸ Gt (K := 74) r0 (m g0)
 refine yp rfl (.indexAddr rfl rfl (Zm3 _ _)) (yt rfl rfl rfl Zpw uu sizeOf65 rfl nb rfl ?_)
 refine yn (zr (zp (Pure1.cast (v' := .int .i64 1) (.add rfl rfl) cgd) (zm rfl (zn ?_)))); intro a w h
 replace h : St 115 S w0 [(0, .int .i64 1), (4, .slice none 0 0), (5, .int .i64 0), (6, _), (8, _), (10, _), (47, .int .i64 1), (48, .bool true)] _ _ a w := h.sub sA
 refine Ze ?_
 refine gC h (zS (zp (Pure1.cast (v' := .bool true) (.lss rfl rfl) cgd) (zn (zs ?_)))); clear h; intro a w h
 refine Zi h rfl ?_
 refine gC h (zk (zs (zb (zS (zm rfl (za rfl (zn (yD Za [0, 1, 2, 3, 4, 5, 6, 7, 8, 9] (Zd kk) (ym rfl rfl (ym rfl rfl (yp rfl (.indexAddr rfl rfl (Xt _ _)) (yd rfl rfl mr isAgg41 sizeOf41 Zaj ?_)))))))))))); clear h
 refine ym rfl rfl (yp rfl (.indexAddr rfl rfl (Xh _ _)) (yd rfl rfl mr isAgg43 sizeOf43 Jn ?_))
 refine Xa rfl kk (vs := [_, _]) rfl call42 (Zre (Zan pa pb pc (0, 0)).2.1 (Zb pa pb pc).2.1 74 r1 (m g1) dd) (by exact hsA) dd ?_; rintro v57 Ψ57 ⟨ad57_1, c57_1, rfl, rfl⟩
 obtain ⟨L1, hL1⟩ : ∃ G, Gu (Zan pa pb pc (0, 0)).2.1 (Zb pa pb pc).2.1 = G := ⟨_, rfl⟩
 rw [hL1]
 have hq1 : Pq 1 238 L1 := hL1 ▸ Gt (K := 74) r1 (m g1)
 refine yp rfl (.indexAddr rfl rfl (Zm2 _ _)) (yt rfl rfl rfl Zpv uu sizeOf65 rfl nb rfl ?_)
 refine yn (zr (zp (Pure1.cast (v' := .int .i64 2) (.add rfl rfl) cgd) (zm rfl (zn ?_)))); intro a w h
 replace h : St 115 S w0 [(0, .int .i64 1), (4, .slice none 0 0), (5, .int .i64 0), (6, _), (8, _), (10, _), (47, .int .i64 2), (48, .bool true)] _ _ a w := h.sub sA
 refine Ze ?_
 refine gC h (zS (zp (Pure1.cast (v' := .bool true) (.lss rfl rfl) cgd) (zn (zs ?_)))); clear h; intro a w h
 refine Zi h rfl ?_
 refine gC h (zk (zs (zb (zS (zm rfl (za rfl (zn (yD Za [0, 1, 2, 3, 4, 5, 6, 7, 8, 9] (Zd kk) (ym rfl rfl (ym rfl rfl (yp rfl (.indexAddr rfl rfl (Yf _ _)) (yd rfl rfl mr isAgg41 sizeOf41 Zcp ?_)))))))))))); clear h
 refine ym rfl rfl (yp rfl (.indexAddr rfl rfl (Xg _ _)) (yd rfl rfl mr isAgg43 sizeOf43 Jm ?_))
 refine Xa rfl kk (vs := [_, _]) rfl call42 (Zre (Zan pa pb pc (0, 0)).2.2 (Zb pa pb pc).2.2 74 r2 (m g2) dd) (by exact hsA) dd ?_; rintro v57 Ψ57 ⟨ad57_2, c57_2, rfl, rfl⟩
 obtain ⟨L2, hL2⟩ : ∃ G, Gu (Zan pa pb pc (0, 0)).2.2 (Zb pa pb pc).2.2 = G := ⟨_, rfl⟩
 rw [hL2]
 have hq2 : Pq 1 238 L2 := hL2 ▸ Gt (K := 74) r2 (m g2)
 refine yp rfl (.indexAddr rfl rfl (Zm1 _ _)) (yt rfl rfl rfl Zpu uu sizeOf65 rfl nb rfl ?_)
 refine yn (zr (zp (Pure1.cast (v' := .int .i64 3) (.add rfl rfl) cgd) (zm rfl (zn ?_)))); intro a w h
 replace h : St 115 S w0 [(0, .int .i64 1), (4, .slice none 0 0), (5, .int .i64 0), (6, _), (8, _), (10, _), (47, .int .i64 3), (48, .bool true)] _ _ a w := h.sub sA
 refine Ze ?_
 refine gC h (zS (zp (Pure1.cast (v' := .bool false) (.lss rfl rfl) cgd) (zn (zs ?_)))); clear h; intro a w h
 refine Zf h rfl ?_
 refine gC h (ze (zS (za rfl (zn (zs (zS (zm rfl (zv [_] rfl call43 (Zl7) (zm rfl (zn (zb ?_))))))))))); clear h; intro a w h
 refine wp_loop_rounds 4 ?_
 refine Ze ?_
 refine gC h (zS (zp (Pure1.cast (v' := .bool true) (.lss rfl rfl) cgd) (zn (zs ?_)))); clear h; intro a w h
 refine Zi h rfl ?_
 refine gC h (zk (zs (zb (zS (zm rfl (za rfl (zn (zS (za rfl (zn (zS (zm rfl (zm rfl ?_))))))))))))); clear h; intro a w h
 refine Zc (Jd h (vs := [_, _]) rfl call44 (Zks) (by exact hsA) dd ?_); clear h; rintro v68 Ψ68 a w ⟨ad68_0, c68_0, rfl, rfl⟩ h
 obtain ⟨B68_0, O68_0, rfl⟩ := h.row_addr (ad := ad68_0) (M := cellsOf Qi [Gi 1 [0]]) mm (by intro e; have := congrArg List.length e; rw [cellsOf_length (k := 8) (fun _ => rfl)] at this; exact absurd this dd)
 refine gL h (zm rfl (zp (.eX rfl) (zp (.eX rfl) (za rfl (za rfl (zn (zs (zS (zm rfl (zp (.builtin [_] rfl (Vd _ _ _)) (zm rfl (zn (zb ?_))))))))))))); clear h; intro a w h
 refine wp_loop_rounds 4 ?_
 refine Ze ?_
 refine gC h (zS (zp (Pure1.cast (v' := .bool true) (.lss rfl rfl) cgd) (zn (zs ?_)))); clear h; intro a w h
 refine Zi h rfl ?_
 refine gC h (zk (zs (zb (zS (zp (.indexAddr rfl rfl (Ziu _ _ _ _ _ (by exact ixd))) (zD rfl mm (cells_lt (k := 8) dd (fun _ => rfl) ([Gi 1 [0]]) 0 (by exact ixd)) isAgg107 sizeOf107 (Zq (k := 8) (fun _ => rfl) ((fun _ => rfl)) ([Gi 1 [0]]) pw0 0 (by exact ixd)) (.inl rfl) ?_))))))
 refine zz Zes fun b18 => zt' rfl rfl Gz uu sizeOf107 rfl nb rfl ?_
 refine zn (zS (zp (.fA rfl Zca) (zd rfl mr isAgg41 sizeOf41 Zb0 ?_))); intro a w h
 refine Zc (Jd h (vs := [_]) rfl call35 (Zce ((Gi 1 [0]).c) 2 (Zs _ dd dd) dd) (by exact hsA) dd ?_); clear h; rintro v79 Ψ79 a w ⟨ad79_0_0, c79_0_0, rfl, rfl⟩ h
 obtain ⟨G79_0_0, hG79_0_0⟩ : ∃ G, norm [(⟨0, 0, (Gi 1 [0]).c⟩ : Tm)] = G := ⟨_, rfl⟩
 rw [hG79_0_0] at h
 have hqG79_0_0 : Pq 0 4 G79_0_0 := hG79_0_0 ▸ (Zte ((Gi 1 [0]).c) (Zs _ dd dd))
 refine gL h (za rfl (zn (zs (zS (zp (.fA rfl Zcd) (zd rfl mr isAgg3 sizeOf3 Zgy ?_))))))
 refine zp (.fA rfl Zcc) (zd rfl mr isAgg3 sizeOf3 Zgx ?_)
 refine zp (.fA rfl Zcb) (zd rfl mr isAgg3 sizeOf3 Zgw ?_)
 refine zp (.build [(_, _), (_, _), (_, _)] rfl (Kh _ _ _)) (zm rfl (zn (zb ?_))); intro a w h
 refine wp_loop_rounds 4 ?_
 refine Ze ?_
 refine gC h (zS (zp (Pure1.cast (v' := .bool true) (.lss rfl rfl) cgd) (zn (zs ?_)))); clear h; intro a w h
 refine Zi h rfl ?_
 refine gC h (zk (zs (zb (zS (zm rfl (zp (.index rfl rfl (Zir _ _ _)) (za rfl (za rfl (zn (zS (zm rfl (zm rfl (zn (zb ?_)))))))))))))); clear h; intro a w h
 refine wp_loop_rounds 4 ?_
 refine Ze ?_
 refine gC h (zS (zp (Pure1.cast (v' := .bool true) (.lss rfl rfl) cgd) (zn (zs ?_)))); clear h; intro a w h
 refine Zi h rfl ?_
 refine gC h (zk (zs (zb (zr (zm rfl (zm rfl (zp (.indexAddr rfl rfl (Zm3 _ _)) (zd rfl mr isAgg65 sizeOf65 Zbk ?_)))))))); clear h; intro a w h
 refine Zc (Jd h (vs := [_, _]) rfl call45 (Zat G79_0_0 L0 _ _ _ _ 0 1 4 238 hqG79_0_0 hq0 dd dd dd) (by exact hsA) dd ?_); clear h; rintro v99 Ψ99 a w ⟨ad99_0_0_0_0, c99_0_0_0_0, rfl, rfl⟩ h
 obtain ⟨G99_0_0_0_0, hG99_0_0_0_0⟩ : ∃ G, norm (Jh G79_0_0 L0) = G := ⟨_, rfl⟩
 rw [hG99_0_0_0_0] at h
 have hqG99_0_0_0_0 : Pq 1 242 G99_0_0_0_0 := hG99_0_0_0_0 ▸ (hqG79_0_0.mul hq0 dd)
 refine gL h (zm rfl (zp (.eX rfl) (zp (.eX rfl) (za rfl (zn (zr (zp (Pure1.cast (v' := .int .i64 1) (.add rfl rfl) cgd) (zm rfl (zn ?_))))))))); clear h; intro a w h
 refine Ze ?_
 refine gC h (zS (zp (Pure1.cast (v' := .bool false) (.lss rfl rfl) cgd) (zn (zs ?_)))); clear h; intro a w h
 refine Zf h rfl ?_
 refine gC h (ze (zr (zp (Pure1.cast (v' := .int .i64 1) (.add rfl rfl) cgd) (zm rfl (zn ?_))))); clear h; intro a w h
 refine Ze ?_
 refine gC h (zS (zp (Pure1.cast (v' := .bool true) (.lss rfl rfl) cgd) (zn (zs ?_)))); clear h; intro a w h
 refine Zi h rfl ?_
 refine gC h (zk (zs (zb (zS (zm rfl (zp (.index rfl rfl (Ziq _ _ _)) (za rfl (za rfl (zn (zS (zm rfl (zm rfl (zn (zb ?_)))))))))))))); clear h; intro a w h
 refine wp_loop_rounds 4 ?_
 refine Ze ?_
 refine gC h (zS (zp (Pure1.cast (v' := .bool false) (.lss rfl rfl) cgd) (zn (zs ?_)))); clear h; intro a w h
 refine Zf h rfl ?_
 refine gC h (ze (zr (zp (Pure1.cast (v' := .int .i64 2) (.add rfl rfl) cgd) (zm rfl (zn ?_))))); clear h; intro a w h
 refine Ze ?_
 refine gC h (zS (zp (Pure1.cast (v' := .bool true) (.lss rfl rfl) cgd) (zn (zs ?_)))); clear h; intro a w h
 refine Zi h rfl ?_
 refine gC h (zk (zs (zb (zS (zm rfl (zp (.index rfl rfl (Zip _ _ _)) (za rfl (za rfl (zn (zS (zm rfl (zm rfl (zn (zb ?_)))))))))))))); clear h; intro a w h
 refine wp_loop_rounds 4 ?_
 refine Ze ?_
 refine gC h (zS (zp (Pure1.cast (v' := .bool false) (.lss rfl rfl) cgd) (zn (zs ?_)))); clear h; intro a w h
 refine Zf h rfl ?_
 refine gC h (ze (zr (zp (Pure1.cast (v' := .int .i64 3) (.add rfl rfl) cgd) (zm rfl (zn ?_))))); clear h; intro a w h
 refine Ze ?_
 refine gC h (zS (zp (Pure1.cast (v' := .bool false) (.lss rfl rfl) cgd) (zn (zs ?_)))); clear h; intro a w h
 refine Zf h rfl ?_
 refine gC h (ze (zr (zm rfl (zm rfl ?_)))); clear h; intro a w h
 refine Zc (Jd h (vs := [_, _]) rfl call46 (Zgr ([] : List Tm) G99_0_0_0_0 _ _ _ _ 0 1 1 242 (Pq.nil 0) hqG99_0_0_0_0 dd dd dd dd) (by exact hsA) dd ?_); clear h; rintro v106 Ψ106 a w ⟨ad106_0_0, c106_0_0, rfl, rfl⟩ h
 obtain ⟨G106_0_0, hG106_0_0⟩ : ∃ G, norm (([] : List Tm) ++ G99_0_0_0_0) = G := ⟨_, rfl⟩
 rw [hG106_0_0] at h
 have hqG106_0_0 : Pq 1 245 G106_0_0 := hG106_0_0 ▸ (Pq.mono (d' := 1) ((Pq.nil 0).add hqG99_0_0_0_0 dd dd) dd (Nat.le_refl _))
 refine gL h (za rfl (zn (zr (zp (Pure1.cast (v' := .int .i64 1) (.add rfl rfl) cgd) (zm rfl (zn ?_)))))); clear h; intro a w h
 replace h : St 115 S w0 [(0, .int .i64 1), (4, .slice none 0 0), (5, .int .i64 0), (10, _), (12, .slice none 0 0), (14, _), (61, .int .i64 3), (62, .int .i64 0), (63, .bool true), (71, _), (72, _), (73, .int .i64 1), (74, .bool true), (88, .bool false), (93, .bool false)] [(b10, bV (.agg #[.slice ad57_0 ((L0).length) c57_0, .slice ad57_1 ((L1).length) c57_1, .slice ad57_2 ((L2).length) c57_2]) 100), (b8, bV (Jb ((Zb pa pb pc).1) ((Zb pa pb pc).2.1) ((Zb pa pb pc).2.2)) 44), (b6, bV (Ze3 (Zan pa pb pc (0, 0))) 60), (b3, bV (Jb pa pb pc) 44)] [Row ad106_0_0 (cellsOf Qh (G106_0_0)), Row (some ⟨B68_0, O68_0, none⟩) (cellsOf Qi [Gi 1 [0]]), Row ad57_2 (cellsOf Qh L2), Row ad57_1 (cellsOf Qh L1), Row ad57_0 (cellsOf Qh L0), Row none (cellsOf Qh []), SideF] a w := ((h.drop sl).factsSub (by exact hsA)).sub sA
 refine Ze ?_
 refine gC h (zS (zp (Pure1.cast (v' := .bool false) (.lss rfl rfl) cgd) (zn (zs ?_)))); clear h; intro a w h
 refine Zf h rfl ?_
 refine gC h (ze (zr (zm rfl (zm rfl (zB [(_, _)] rfl (Zjd _ _ _) fun b110 => ?_))))); clear h; intro a w h
 refine Zc (Zcq (σr := [(b10, bV (.agg #[.slice ad57_0 ((L0).length) c57_0, .slice ad57_1 ((L1).length) c57_1, .slice ad57_2 ((L2).length) c57_2]) 100), (b8, bV (Jb ((Zb pa pb pc).1) ((Zb pa pb pc).2.1) ((Zb pa pb pc).2.2)) 44), (b6, bV (Ze3 (Zan pa pb pc (0, 0))) 60), (b3, bV (Jb pa pb pc) 44)]) h rfl rfl (List.Perm.refl _) (GrowO.nil _ _) runUnderlying52 runUnderlying52 typeInfo65 sizeOf65 zeroValue65 rfl dd dd rfl rfl dd (by show 24 * (2 * ((([] : List Vs)).length + 1) + 192) ≤ 281474976710656; first | omega | (simp only [List.length_append, List.length_cons, List.length_nil]; omega)) dd ?_); clear h
 intro v111_0 o111_0 a w hG111_0 h
 obtain ⟨ad111_0, c111_0, rfl⟩ := hG111_0.is
 have hLn111_0 : (0 : Nat) + 1 = (([] : List Vs) ++ [(⟨ad106_0_0, (G106_0_0).length, c106_0_0⟩ : Vs)]).length := lA
 rw [hLn111_0] at h hG111_0
 replace hG111_0 : GrowO 1 65 (.slice ad111_0 (([] : List Vs) ++ [(⟨ad106_0_0, (G106_0_0).length, c106_0_0⟩ : Vs)]).length c111_0) (([] : List Vs) ++ [(⟨ad106_0_0, (G106_0_0).length, c106_0_0⟩ : Vs)]).length (List.map Vv (([] : List Vs) ++ [(⟨ad106_0_0, (G106_0_0).length, c106_0_0⟩ : Vs)])) o111_0 := by rw [List.map_append]; exact hG111_0
 refine gL h (za rfl (zn (zr (zp (Pure1.cast (v' := .int .i64 1) (.add rfl rfl) cgd) (zm rfl (zn ?_)))))); clear h; intro a w h
 replace h : St 115 S w0 [(0, .int .i64 1), (4, .slice none 0 0), (5, .int .i64 0), (10, _), (12, _), (61, .int .i64 3), (62, .int .i64 1), (63, .bool true), (74, .bool false), (88, .bool false), (93, .bool false)] _ [Row ad106_0_0 (cellsOf Qh (G106_0_0)), Row ad57_2 (cellsOf Qh L2), Row ad57_1 (cellsOf Qh L1), Row ad57_0 (cellsOf Qh L0), Row none (cellsOf Qh []), SideF] a w := (h.factsSub (by exact hsA)).sub sA
 refine Ze ?_
 refine gC h (zS (zp (Pure1.cast (v' := .bool true) (.lss rfl rfl) cgd) (zn (zs ?_)))); clear h; intro a w h
 refine Zi h rfl ?_
 refine gC h (zk (zs (zb (zS (zm rfl (za rfl (zn (zS (za rfl (zn (zS (zm rfl (zm rfl ?_))))))))))))); clear h; intro a w h
 refine Zc (Jd h (vs := [_, _]) rfl call44 (Zkr) (by exact hsA) dd ?_); clear h; rintro v68 Ψ68 a w ⟨ad68_1, c68_1, rfl, rfl⟩ h
 obtain ⟨B68_1, O68_1, rfl⟩ := h.row_addr (ad := ad68_1) (M := cellsOf Qi [Gi 1 [1]]) mm (by intro e; have := congrArg List.length e; rw [cellsOf_length (k := 8) (fun _ => rfl)] at this; exact absurd this dd)
 refine gL h (zm rfl (zp (.eX rfl) (zp (.eX rfl) (za rfl (za rfl (zn (zs (zS (zm rfl (zp (.builtin [_] rfl (Vd _ _ _)) (zm rfl (zn (zb ?_))))))))))))); clear h; intro a w h
 refine wp_loop_rounds 4 ?_
 refine Ze ?_
 refine gC h (zS (zp (Pure1.cast (v' := .bool true) (.lss rfl rfl) cgd) (zn (zs ?_)))); clear h; intro a w h
 refine Zi h rfl ?_
 refine gC h (zk (zs (zb (zS (zp (.indexAddr rfl rfl (Ziu _ _ _ _ _ (by exact ixd))) (zD rfl mm (cells_lt (k := 8) dd (fun _ => rfl) ([Gi 1 [1]]) 0 (by exact ixd)) isAgg107 sizeOf107 (Zq (k := 8) (fun _ => rfl) ((fun _ => rfl)) ([Gi 1 [1]]) pw0 0 (by exact ixd)) (.inl rfl) ?_))))))
 refine zz Zes fun b18 => zt' rfl rfl Gz uu sizeOf107 rfl nb rfl ?_
 refine zn (zS (zp (.fA rfl Zca) (zd rfl mr isAgg41 sizeOf41 Zb0 ?_))); intro a w h
 refine Zc (Jd h (vs := [_]) rfl call35 (Zce ((Gi 1 [1]).c) 2 (Zs _ dd dd) dd) (by exact hsA) dd ?_); clear h; rintro v79 Ψ79 a w ⟨ad79_1_0, c79_1_0, rfl, rfl⟩ h
 obtain ⟨G79_1_0, hG79_1_0⟩ : ∃ G, norm [(⟨0, 0, (Gi 1 [1]).c⟩ : Tm)] = G := ⟨_, rfl⟩
 rw [hG79_1_0] at h
 have hqG79_1_0 : Pq 0 4 G79_1_0 := hG79_1_0 ▸ (Zte ((Gi 1 [1]).c) (Zs _ dd dd))
 refine gL h (za rfl (zn (zs (zS (zp (.fA rfl Zcd) (zd rfl mr isAgg3 sizeOf3 Zgy ?_))))))
 refine zp (.fA rfl Zcc) (zd rfl mr isAgg3 sizeOf3 Zgx ?_)
 refine zp (.fA rfl Zcb) (zd rfl mr isAgg3 sizeOf3 Zgw ?_)
 refine zp (.build [(_, _), (_, _), (_, _)] rfl (Kh _ _ _)) (zm rfl (zn (zb ?_))); intro a w h
 refine wp_loop_rounds 4 ?_
 refine Ze ?_
 refine gC h (zS (zp (Pure1.cast (v' := .bool true) (.lss rfl rfl) cgd) (zn (zs ?_)))); clear h; intro a w h
 refine Zi h rfl ?_
 refine gC h (zk (zs (zb (zS (zm rfl (zp (.index rfl rfl (Zir _ _ _)) (za rfl (za rfl (zn (zS (zm rfl (zm rfl (zn (zb ?_)))))))))))))); clear h; intro a w h
 refine wp_loop_rounds 4 ?_
 refine Ze ?_
 refine gC h (zS (zp (Pure1.cast (v' := .bool false) (.lss rfl rfl) cgd) (zn (zs ?_)))); clear h; intro a w h
 refine Zf h rfl ?_
 refine gC h (ze (zr (zp (Pure1.cast (v' := .int .i64 1) (.add rfl rfl) cgd) (zm rfl (zn ?_))))); clear h; intro a w h
 refine Ze ?_
 refine gC h (zS (zp (Pure1.cast (v' := .bool true) (.lss rfl rfl) cgd) (zn (zs ?_)))); clear h; intro a w h
 refine Zi h rfl ?_
 refine gC h (zk (zs (zb (zS (zm rfl (zp (.index rfl rfl (Ziq _ _ _)) (za rfl (za rfl (zn (zS (zm rfl (zm rfl (zn (zb ?_)))))))))))))); clear h; intro a w h
 refine wp_loop_rounds 4 ?_
 refine Ze ?_
 refine gC h (zS (zp (Pure1.cast (v' := .bool true) (.lss rfl rfl) cgd) (zn (zs ?_)))); clear h; intro a w h
 refine Zi h rfl ?_
 refine gC h (zk (zs (zb (zr (zm rfl (zm rfl (zp (.indexAddr rfl rfl (Zm2 _ _)) (zd rfl mr isAgg65 sizeOf65 Gq ?_)))))))); clear h; intro a w h
 refine Zc (Jd h (vs := [_, _]) rfl call45 (Zat G79_1_0 L1 _ _ _ _ 0 1 4 238 hqG79_1_0 hq1 dd dd dd) (by exact hsA) dd ?_); clear h; rintro v99 Ψ99 a w ⟨ad99_1_0_1_0, c99_1_0_1_0, rfl, rfl⟩ h
 obtain ⟨G99_1_0_1_0, hG99_1_0_1_0⟩ : ∃ G, norm (Jh G79_1_0 L1) = G := ⟨_, rfl⟩
 rw [hG99_1_0_1_0] at h
 have hqG99_1_0_1_0 : Pq 1 242 G99_1_0_1_0 := hG99_1_0_1_0 ▸ (hqG79_1_0.mul hq1 dd)
 refine gL h (zm rfl (zp (.eX rfl) (zp (.eX rfl) (za rfl (zn (zr (zp (Pure1.cast (v' := .int .i64 1) (.add rfl rfl) cgd) (zm rfl (zn ?_))))))))); clear h; intro a w h
 refine Ze ?_
 refine gC h (zS (zp (Pure1.cast (v' := .bool false) (.lss rfl rfl) cgd) (zn (zs ?_)))); clear h; intro a w h
 refine Zf h rfl ?_
 refine gC h (ze (zr (zp (Pure1.cast (v' := .int .i64 2) (.add rfl rfl) cgd) (zm rfl (zn ?_))))); clear h; intro a w h
 refine Ze ?_
 refine gC h (zS (zp (Pure1.cast (v' := .bool true) (.lss rfl rfl) cgd) (zn (zs ?_)))); clear h; intro a w h
 refine Zi h rfl ?_
 refine gC h (zk (zs (zb (zS (zm rfl (zp (.index rfl rfl (Zip _ _ _)) (za rfl (za rfl (zn (zS (zm rfl (zm rfl (zn (zb ?_)))))))))))))); clear h; intro a w h
 refine wp_loop_rounds 4 ?_
 refine Ze ?_
 refine gC h (zS (zp (Pure1.cast (v' := .bool false) (.lss rfl rfl) cgd) (zn (zs ?_)))); clear h; intro a w h
 refine Zf h rfl ?_
 refine gC h (ze (zr (zp (Pure1.cast (v' := .int .i64 3) (.add rfl rfl) cgd) (zm rfl (zn ?_))))); clear h; intro a w h
 refine Ze ?_
 refine gC h (zS (zp (Pure1.cast (v' := .bool false) (.lss rfl rfl) cgd) (zn (zs ?_)))); clear h; intro a w h
 refine Zf h rfl ?_
 refine gC h (ze (zr (zm rfl (zm rfl ?_)))); clear h; intro a w h
 refine Zc (Jd h (vs := [_, _]) rfl call46 (Zgr ([] : List Tm) G99_1_0_1_0 _ _ _ _ 0 1 1 242 (Pq.nil 0) hqG99_1_0_1_0 dd dd dd dd) (by exact hsA) dd ?_); clear h; rintro v106 Ψ106 a w ⟨ad106_1_0, c106_1_0, rfl, rfl⟩ h
 obtain ⟨G106_1_0, hG106_1_0⟩ : ∃ G, norm (([] : List Tm) ++ G99_1_0_1_0) = G := ⟨_, rfl⟩
 rw [hG106_1_0] at h
 have hqG106_1_0 : Pq 1 245 G106_1_0 := hG106_1_0 ▸ (Pq.mono (d' := 1) ((Pq.nil 0).add hqG99_1_0_1_0 dd dd) dd (Nat.le_refl _))
 refine gL h (za rfl (zn (zr (zp (Pure1.cast (v' := .int .i64 1) (.add rfl rfl) cgd) (zm rfl (zn ?_)))))); clear h; intro a w h
 replace h : St 115 S w0 [(0, .int .i64 1), (4, .slice none 0 0), (5, .int .i64 0), (10, _), (12, _), (14, _), (61, .int .i64 3), (62, .int .i64 1), (63, .bool true), (71, _), (72, _), (73, .int .i64 1), (74, .bool true), (88, .bool false), (93, .bool false)] (o111_0 ++ ((b10, bV (.agg #[.slice ad57_0 ((L0).length) c57_0, .slice ad57_1 ((L1).length) c57_1, .slice ad57_2 ((L2).length) c57_2]) 100) :: ((b8, bV (Jb ((Zb pa pb pc).1) ((Zb pa pb pc).2.1) ((Zb pa pb pc).2.2)) 44) :: ((b6, bV (Ze3 (Zan pa pb pc (0, 0))) 60) :: ((b3, bV (Jb pa pb pc) 44) :: []))))) [Row ad106_1_0 (cellsOf Qh (G106_1_0)), Row (some ⟨B68_1, O68_1, none⟩) (cellsOf Qi [Gi 1 [1]]), Row ad106_0_0 (cellsOf Qh (G106_0_0)), Row ad57_2 (cellsOf Qh L2), Row ad57_1 (cellsOf Qh L1), Row ad57_0 (cellsOf Qh L0), Row none (cellsOf Qh []), SideF] a w := ((h.drop sl).factsSub (by exact hsA)).sub sA
 refine Ze ?_
 refine gC h (zS (zp (Pure1.cast (v' := .bool false) (.lss rfl rfl) cgd) (zn (zs ?_)))); clear h; intro a w h
 refine Zf h rfl ?_
 refine gC h (ze (zr (zm rfl (zm rfl (zB [(_, _)] rfl (Zjd _ _ _) fun b110 => ?_))))); clear h; intro a w h
 refine Zc (Zcq (σr := [(b10, bV (.agg #[.slice ad57_0 ((L0).length) c57_0, .slice ad57_1 ((L1).length) c57_1, .slice ad57_2 ((L2).length) c57_2]) 100), (b8, bV (Jb ((Zb pa pb pc).1) ((Zb pa pb pc).2.1) ((Zb pa pb pc).2.2)) 44), (b6, bV (Ze3 (Zan pa pb pc (0, 0))) 60), (b3, bV (Jb pa pb pc) 44)]) h rfl rfl (List.Perm.trans (List.Perm.refl _) (List.Perm.cons _ (List.Perm.refl _))) hG111_0 runUnderlying52 runUnderlying52 typeInfo65 sizeOf65 zeroValue65 rfl dd dd rfl rfl dd (by show 24 * (2 * ((([] : List Vs) ++ [(⟨ad106_0_0, (G106_0_0).length, c106_0_0⟩ : Vs)]).length + 1) + 192) ≤ 281474976710656; first | omega | (simp only [List.length_append, List.length_cons, List.length_nil]; omega)) dd ?_); clear h
 intro v111_1 o111_1 a w hG111_1 h
 obtain ⟨ad111_1, c111_1, rfl⟩ := hG111_1.is
 have hLn111_1 : (([] : List Vs) ++ [(⟨ad106_0_0, (G106_0_0).length, c106_0_0⟩ : Vs)]).length + 1 = ((([] : List Vs) ++ [(⟨ad106_0_0, (G106_0_0).length, c106_0_0⟩ : Vs)]) ++ [(⟨ad106_1_0, (G106_1_0).length, c106_1_0⟩ : Vs)]).length := lA
 rw [hLn111_1] at h hG111_1
 replace hG111_1 : GrowO 1 65 (.slice ad111_1 ((([] : List Vs) ++ [(⟨ad106_0_0, (G106_0_0).length, c106_0_0⟩ : Vs)]) ++ [(⟨ad106_1_0, (G106_1_0).length, c106_1_0⟩ : Vs)]).length c111_1) ((([] : List Vs) ++ [(⟨ad106_0_0, (G106_0_0).length, c106_0_0⟩ : Vs)]) ++ [(⟨ad106_1_0, (G106_1_0).length, c106_1_0⟩ : Vs)]).length (List.map Vv ((([] : List Vs) ++ [(⟨ad106_0_0, (G106_0_0).length, c106_0_0⟩ : Vs)]) ++ [(⟨ad106_1_0, (G106_1_0).length, c106_1_0⟩ : Vs)])) o111_1 := by rw [List.map_append]; exact hG111_1
 refine gL h (za rfl (zn (zr (zp (Pure1.cast (v' := .int .i64 2) (.add rfl rfl) cgd) (zm rfl (zn ?_)))))); clear h; intro a w h
 replace h : St 115 S w0 [(0, .int .i64 1), (4, .slice none 0 0), (5, .int .i64 0), (10, _), (12, _), (61, .int .i64 3), (62, .int .i64 2), (63, .bool true), (74, .bool false), (88, .bool false), (93, .bool false)] _ [Row ad106_1_0 (cellsOf Qh (G106_1_0)), Row ad106_0_0 (cellsOf Qh (G106_0_0)), Row ad57_2 (cellsOf Qh L2), Row ad57_1 (cellsOf Qh L1), Row ad57_0 (cellsOf Qh L0), Row none (cellsOf Qh []), SideF] a w := (h.factsSub (by exact hsA)).sub sA
 refine Ze ?_
 refine gC h (zS (zp (Pure1.cast (v' := .bool true) (.lss rfl rfl) cgd) (zn (zs ?_)))); clear h; intro a w h
 refine Zi h rfl ?_
 refine gC h (zk (zs (zb (zS (zm rfl (za rfl (zn (zS (za rfl (zn (zS (zm rfl (zm rfl ?_))))))))))))); clear h; intro a w h
 refine Zc (Jd h (vs := [_, _]) rfl call44 (Zkq) (by exact hsA) dd ?_); clear h; rintro v68 Ψ68 a w ⟨ad68_2, c68_2, rfl, rfl⟩ h
 obtain ⟨B68_2, O68_2, rfl⟩ := h.row_addr (ad := ad68_2) (M := cellsOf Qi [Gi 1 [2]]) mm (by intro e; have := congrArg List.length e; rw [cellsOf_length (k := 8) (fun _ => rfl)] at this; exact absurd this dd)
 refine gL h (zm rfl (zp (.eX rfl) (zp (.eX rfl) (za rfl (za rfl (zn (zs (zS (zm rfl (zp (.builtin [_] rfl (Vd _ _ _)) (zm rfl (zn (zb ?_))))))))))))); clear h; intro a w h
 refine wp_loop_rounds 4 ?_
 refine Ze ?_
 refine gC h (zS (zp (Pure1.cast (v' := .bool true) (.lss rfl rfl) cgd) (zn (zs ?_)))); clear h; intro a w h
 refine Zi h rfl ?_
 refine gC h (zk (zs (zb (zS (zp (.indexAddr rfl rfl (Ziu _ _ _ _ _ (by exact ixd))) (zD rfl mm (cells_lt (k := 8) dd (fun _ => rfl) ([Gi 1 [2]]) 0 (by exact ixd)) isAgg107 sizeOf107 (Zq (k := 8) (fun _ => rfl) ((fun _ => rfl)) ([Gi 1 [2]]) pw0 0 (by exact ixd)) (.inl rfl) ?_))))))
 refine zz Zes fun b18 => zt' rfl rfl Gz uu sizeOf107 rfl nb rfl ?_
 refine zn (zS (zp (.fA rfl Zca) (zd rfl mr isAgg41 sizeOf41 Zb0 ?_))); intro a w h
 refine Zc (Jd h (vs := [_]) rfl call35 (Zce ((Gi 1 [2]).c) 2 (Zs _ dd dd) dd) (by exact hsA) dd ?_); clear h; rintro v79 Ψ79 a w ⟨ad79_2_0, c79_2_0, rfl, rfl⟩ h
 obtain ⟨G79_2_0, hG79_2_0⟩ : ∃ G, norm [(⟨0, 0, (Gi 1 [2]).c⟩ : Tm)] = G := ⟨_, rfl⟩
 rw [hG79_2_0] at h
 have hqG79_2_0 : Pq 0 4 G79_2_0 := hG79_2_0 ▸ (Zte ((Gi 1 [2]).c) (Zs _ dd dd))
 refine gL h (za rfl (zn (zs (zS (zp (.fA rfl Zcd) (zd rfl mr isAgg3 sizeOf3 Zgy ?_))))))
 refine zp (.fA rfl Zcc) (zd rfl mr isAgg3 sizeOf3 Zgx ?_)
 refine zp (.fA rfl Zcb) (zd rfl mr isAgg3 sizeOf3 Zgw ?_)
 refine zp (.build [(_, _), (_, _), (_, _)] rfl (Kh _ _ _)) (zm rfl (zn (zb ?_))); intro a w h
 refine wp_loop_rounds 4 ?_
 refine Ze ?_
 refine gC h (zS (zp (Pure1.cast (v' := .bool true) (.lss rfl rfl) cgd) (zn (zs ?_)))); clear h; intro a w h
 refine Zi h rfl ?_
 refine gC h (zk (zs (zb (zS (zm rfl (zp (.index rfl rfl (Zir _ _ _)) (za rfl (za rfl (zn (zS (zm rfl (zm rfl (zn (zb ?_)))))))))))))); clear h; intro a w h
 refine wp_loop_rounds 4 ?_
 refine Ze ?_
 refine gC h (zS (zp (Pure1.cast (v' := .bool false) (.lss rfl rfl) cgd) (zn (zs ?_)))); clear h; intro a w h
 refine Zf h rfl ?_
 refine gC h (ze (zr (zp (Pure1.cast (v' := .int .i64 1) (.add rfl rfl) cgd) (zm rfl (zn ?_))))); clear h; intro a w h
 refine Ze ?_
 refine gC h (zS (zp (Pure1.cast (v' := .bool true) (.lss rfl rfl) cgd) (zn (zs ?_)))); clear h; intro a w h
 refine Zi h rfl ?_
 refine gC h (zk (zs (zb (zS (zm rfl (zp (.index rfl rfl (Ziq _ _ _)) (za rfl (za rfl (zn (zS (zm rfl (zm rfl (zn (zb ?_)))))))))))))); clear h; intro a w h
 refine wp_loop_rounds 4 ?_
 refine Ze ?_
 refine gC h (zS (zp (Pure1.cast (v' := .bool false) (.lss rfl rfl) cgd) (zn (zs ?_)))); clear h; intro a w h
 refine Zf h rfl ?_
 refine gC h (ze (zr (zp (Pure1.cast (v' := .int .i64 2) (.add rfl rfl) cgd) (zm rfl (zn ?_))))); clear h; intro a w h
 refine Ze ?_
 refine gC h (zS (zp (Pure1.cast (v' := .bool true) (.lss rfl rfl) cgd) (zn (zs ?_)))); clear h; intro a w h
 refine Zi h rfl ?_
 refine gC h (zk (zs (zb (zS (zm rfl (zp (.index rfl rfl (Zip _ _ _)) (za rfl (za rfl (zn (zS (zm rfl (zm rfl (zn (zb ?_)))))))))))))); clear h; intro a w h
 refine wp_loop_rounds 4 ?_
 refine Ze ?_
 refine gC h (zS (zp (Pure1.cast (v' := .bool true) (.lss rfl rfl) cgd) (zn (zs ?_)))); clear h; intro a w h
 refine Zi h rfl ?_
 refine gC h (zk (zs (zb (zr (zm rfl (zm rfl (zp (.indexAddr rfl rfl (Zm1 _ _)) (zd rfl mr isAgg65 sizeOf65 Jo ?_)))))))); clear h; intro a w h
 refine Zc (Jd h (vs := [_, _]) rfl call45 (Zat G79_2_0 L2 _ _ _ _ 0 1 4 238 hqG79_2_0 hq2 dd dd dd) (by exact hsA) dd ?_); clear h; rintro v99 Ψ99 a w ⟨ad99_2_0_2_0, c99_2_0_2_0, rfl, rfl⟩ h
 obtain ⟨G99_2_0_2_0, hG99_2_0_2_0⟩ : ∃ G, norm (Jh G79_2_0 L2) = G := ⟨_, rfl⟩
 rw [hG99_2_0_2_0] at h
 have hqG99_2_0_2_0 : Pq 1 242 G99_2_0_2_0 := hG99_2_0_2_0 ▸ (hqG79_2_0.mul hq2 dd)
 refine gL h (zm rfl (zp (.eX rfl) (zp (.eX rfl) (za rfl (zn (zr (zp (Pure1.cast (v' := .int .i64 1) (.add rfl rfl) cgd) (zm rfl (zn ?_))))))))); clear h; intro a w h
 refine Ze ?_
 refine gC h (zS (zp (Pure1.cast (v' := .bool false) (.lss rfl rfl) cgd) (zn (zs ?_)))); clear h; intro a w h
 refine Zf h rfl ?_
 refine gC h (ze (zr (zp (Pure1.cast (v' := .int .i64 3) (.add rfl rfl) cgd) (zm rfl (zn ?_))))); clear h; intro a w h
 refine Ze ?_
 refine gC h (zS (zp (Pure1.cast (v' := .bool false) (.lss rfl rfl) cgd) (zn (zs ?_)))); clear h; intro a w h
 refine Zf h rfl ?_
 refine gC h (ze (zr (zm rfl (zm rfl ?_)))); clear h; intro a w h
 refine Zc (Jd h (vs := [_, _]) rfl call46 (Zgr ([] : List Tm) G99_2_0_2_0 _ _ _ _ 0 1 1 242 (Pq.nil 0) hqG99_2_0_2_0 dd dd dd dd) (by exact hsA) dd ?_); clear h; rintro v106 Ψ106 a w ⟨ad106_2_0, c106_2_0, rfl, rfl⟩ h
 obtain ⟨G106_2_0, hG106_2_0⟩ : ∃ G, norm (([] : List Tm) ++ G99_2_0_2_0) = G := ⟨_, rfl⟩
 rw [hG106_2_0] at h
 have hqG106_2_0 : Pq 1 245 G106_2_0 := hG106_2_0 ▸ (Pq.mono (d' := 1) ((Pq.nil 0).add hqG99_2_0_2_0 dd dd) dd (Nat.le_refl _))
 refine gL h (za rfl (zn (zr (zp (Pure1.cast (v' := .int .i64 1) (.add rfl rfl) cgd) (zm rfl (zn ?_)))))); clear h; intro a w h
 replace h : St 115 S w0 [(0, .int .i64 1), (4, .slice none 0 0), (5, .int .i64 0), (10, _), (12, _), (14, _), (61, .int .i64 3), (62, .int .i64 2), (63, .bool true), (71, _), (72, _), (73, .int .i64 1), (74, .bool true), (88, .bool false), (93, .bool false)] (o111_1 ++ ((b10, bV (.agg #[.slice ad57_0 ((L0).length) c57_0, .slice ad57_1 ((L1).length) c57_1, .slice ad57_2 ((L2).length) c57_2]) 100) :: ((b8, bV (Jb ((Zb pa pb pc).1) ((Zb pa pb pc).2.1) ((Zb pa pb pc).2.2)) 44) :: ((b6, bV (Ze3 (Zan pa pb pc (0, 0))) 60) :: ((b3, bV (Jb pa pb pc) 44) :: []))))) [Row ad106_2_0 (cellsOf Qh (G106_2_0)), Row (some ⟨B68_2, O68_2, none⟩) (cellsOf Qi [Gi 1 [2]]), Row ad106_1_0 (cellsOf Qh (G106_1_0)), Row ad106_0_0 (cellsOf Qh (G106_0_0)), Row ad57_2 (cellsOf Qh L2), Row ad57_1 (cellsOf Qh L1), Row ad57_0 (cellsOf Qh L0), Row none (cellsOf Qh []), SideF] a w := ((h.drop sl).factsSub (by exact hsA)).sub sA
 refine Ze ?_
 refine gC h (zS (zp (Pure1.cast (v' := .bool false) (.lss rfl rfl) cgd) (zn (zs ?_)))); clear h; intro a w h
 refine Zf h rfl ?_
 refine gC h (ze (zr (zm rfl (zm rfl (zB [(_, _)] rfl (Zjd _ _ _) fun b110 => ?_))))); clear h; intro a w h
 refine Zc (Zcq (σr := [(b10, bV (.agg #[.slice ad57_0 ((L0).length) c57_0, .slice ad57_1 ((L1).length) c57_1, .slice ad57_2 ((L2).length) c57_2]) 100), (b8, bV (Jb ((Zb pa pb pc).1) ((Zb pa pb pc).2.1) ((Zb pa pb pc).2.2)) 44), (b6, bV (Ze3 (Zan pa pb pc (0, 0))) 60), (b3, bV (Jb pa pb pc) 44)]) h rfl rfl (List.Perm.trans (List.Perm.refl _) (List.Perm.cons _ (List.Perm.refl _))) hG111_1 runUnderlying52 runUnderlying52 typeInfo65 sizeOf65 zeroValue65 rfl dd dd rfl rfl dd (by show 24 * (2 * (((([] : List Vs) ++ [(⟨ad106_0_0, (G106_0_0).length, c106_0_0⟩ : Vs)]) ++ [(⟨ad106_1_0, (G106_1_0).length, c106_1_0⟩ : Vs)]).length + 1) + 192) ≤ 281474976710656; first | omega | (simp only [List.length_append, List.length_cons, List.length_nil]; omega)) dd ?_); clear h
 intro v111_2 o111_2 a w hG111_2 h
 obtain ⟨ad111_2, c111_2, rfl⟩ := hG111_2.is
 have hLn111_2 : ((([] : List Vs) ++ [(⟨ad106_0_0, (G106_0_0).length, c106_0_0⟩ : Vs)]) ++ [(⟨ad106_1_0, (G106_1_0).length, c106_1_0⟩ : Vs)]).length + 1 = (((([] : List Vs) ++ [(⟨ad106_0_0, (G106_0_0).length, c106_0_0⟩ : Vs)]) ++ [(⟨ad106_1_0, (G106_1_0).length, c106_1_0⟩ : Vs)]) ++ [(⟨ad106_2_0, (G106_2_0).length, c106_2_0⟩ : Vs)]).length := lA
 rw [hLn111_2] at h hG111_2
 replace hG111_2 : GrowO 1 65 (.slice ad111_2 (((([] : List Vs) ++ [(⟨ad106_0_0, (G106_0_0).length, c106_0_0⟩ : Vs)]) ++ [(⟨ad106_1_0, (G106_1_0).length, c106_1_0⟩ : Vs)]) ++ [(⟨ad106_2_0, (G106_2_0).length, c106_2_0⟩ : Vs)]).length c111_2) (((([] : List Vs) ++ [(⟨ad106_0_0, (G106_0_0).length, c106_0_0⟩ : Vs)]) ++ [(⟨ad106_1_0, (G106_1_0).length, c106_1_0⟩ : Vs)]) ++ [(⟨ad106_2_0, (G106_2_0).length, c106_2_0⟩ : Vs)]).length (List.map Vv (((([] : List Vs) ++ [(⟨ad106_0_0, (G106_0_0).length, c106_0_0⟩ : Vs)]) ++ [(⟨ad106_1_0, (G106_1_0).length, c106_1_0⟩ : Vs)]) ++ [(⟨ad106_2_0, (G106_2_0).length, c106_2_0⟩ : Vs)])) o111_2 := by rw [List.map_append]; exact hG111_2
 refine gL h (za rfl (zn (zr (zp (Pure1.cast (v' := .int .i64 3) (.add rfl rfl) cgd) (zm rfl (zn ?_)))))); clear h; intro a w h
 replace h : St 115 S w0 [(0, .int .i64 1), (4, .slice none 0 0), (5, .int .i64 0), (10, _), (12, _), (61, .int .i64 3), (62, .int .i64 3), (63, .bool true), (74, .bool false), (88, .bool false), (93, .bool false)] _ [Row ad106_2_0 (cellsOf Qh (G106_2_0)), Row ad106_1_0 (cellsOf Qh (G106_1_0)), Row ad106_0_0 (cellsOf Qh (G106_0_0)), Row ad57_2 (cellsOf Qh L2), Row ad57_1 (cellsOf Qh L1), Row ad57_0 (cellsOf Qh L0), Row none (cellsOf Qh []), SideF] a w := (h.factsSub (by exact hsA)).sub sA
 refine Ze ?_
 refine gC h (zS (zp (Pure1.cast (v' := .bool false) (.lss rfl rfl) cgd) (zn (zs ?_)))); clear h; intro a w h
 refine Zf h rfl ?_
 refine gC h (ze (zS (zm rfl ?_))); clear h; intro a w h
 replace h := h.shareO' hS hG111_2
 refine gL h (zv [_] rfl call47 (Qd1 ad111_2 3 c111_2 (Zln hG111_2) dd) (za rfl (za rfl (zn (zt ?_))))); clear h; intro a w h
 exact Xr (Ψ := [Row ad111_2 (List.map Vv (((([] : List Vs) ++ [(⟨ad106_0_0, (G106_0_0).length, c106_0_0⟩ : Vs)]) ++ [(⟨ad106_1_0, (G106_1_0).length, c106_1_0⟩ : Vs)]) ++ [(⟨ad106_2_0, (G106_2_0).length, c106_2_0⟩ : Vs)])), Row ad106_0_0 (cellsOf Qh G106_0_0), Row ad106_1_0 (cellsOf Qh G106_1_0), Row ad106_2_0 (cellsOf Qh G106_2_0)]) h (Qq h rfl (.tmp rfl) (.tmp rfl)) ⟨ad111_2, ad106_0_0, c106_0_0, ad106_1_0, c106_1_0, ad106_2_0, c106_2_0, rfl, by subst hL0 hL1 hL2 hG79_0_0 hG99_0_0_0_0 hG106_0_0 hG79_1_0 hG99_1_0_1_0 hG106_1_0 hG79_2_0 hG99_2_0_2_0 hG106_2_0; rfl⟩ (fun R hR => by simp only [List.mem_cons, List.not_mem_nil, or_false] at hR; rcases hR with rfl | rfl | rfl | rfl <;> exact mm)
end
end Go.Proofs.YthcjdeklpegceaaGreatDoor
