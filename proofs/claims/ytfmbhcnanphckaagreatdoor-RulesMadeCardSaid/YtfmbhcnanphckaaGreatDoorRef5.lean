/- Written by a program of ours (gen.py) out of short specifications. By an AI agent. -/
import Derived.Test.YtfmbhcnanphckaaGreatDoorRef4
import Derived.Test.YtfmbhcnanphckaaGreatDoorFxZ
set_option linter.unusedVariables false
set_option linter.unusedSimpArgs false
set_option maxRecDepth 4000
namespace Go.Proofs.YtfmbhcnanphckaaGreatDoor
open Go Go.Proofs Go.Fx
attribute [local irreducible] Oper.wp Code.wp wpList Fx.Head wpOp
theorem len_slice_53 (a : Option Addr) (n c : Nat) (w : World) (ty : TypeId) (cs : Array Bool) : (Go.builtin .len #[53] ty cs #[.slice a n c]).run Tryz.prog w = .ok (.value (.int .i64 n)) w := by
  simp [go_sem]
theorem len_slice_63 (a : Option Addr) (n c : Nat) (w : World) (ty : TypeId) (cs : Array Bool) : (Go.builtin .len #[63] ty cs #[.slice a n c]).run Tryz.prog w = .ok (.value (.int .i64 n)) w := by
  simp [go_sem]
theorem ix_51 (b off n c j : Nat) (h : j < n) (w : World) : (Instr.indexAt 51 (.slice (some ⟨b, off, none⟩) n c) (.int .i64 (j : Int))).run Tryz.prog w = .ok (.pointer (some ⟨b, off + j * 3, none⟩)) w := by
  simpa using indexAt_slice Tryz.runUnderlying51 Tryz.sizeOf50 b off n c j h w
theorem ix_63 (b off n c j : Nat) (h : j < n) (w : World) : (Instr.indexAt 63 (.slice (some ⟨b, off, none⟩) n c) (.int .i64 (j : Int))).run Tryz.prog w = .ok (.pointer (some ⟨b, off + j * 9, none⟩)) w := by
  simpa using indexAt_slice Tryz.runUnderlying63 Tryz.sizeOf72 b off n c j h w
theorem ixv_72 (b off j : Nat) (h : j < 3) (w : World) : (Instr.indexAt 72 (.pointer (some ⟨b, off, none⟩)) (.int .i64 (j : Int))).run Tryz.prog w = .ok (.pointer (some ⟨b, off + j * 3, none⟩)) w := indexAt_arr Tryz.runUnderlying72 Tryz.sizeOf50 b off j h w
theorem ix_53 (b off n c j : Nat) (h : j < n) (w : World) : (Instr.indexAt 53 (.slice (some ⟨b, off, none⟩) n c) (.int .i64 (j : Int))).run Tryz.prog w = .ok (.pointer (some ⟨b, off + j * 3, none⟩)) w := by
  simpa using indexAt_slice Tryz.runUnderlying53 Tryz.sizeOf56 b off n c j h w
theorem ixv_56 (b off j : Nat) (h : j < 3) (w : World) : (Instr.indexAt 56 (.pointer (some ⟨b, off, none⟩)) (.int .i64 (j : Int))).run Tryz.prog w = .ok (.pointer (some ⟨b, off + j * 1, none⟩)) w := indexAt_arr Tryz.runUnderlying56 Tryz.sizeOf3 b off j h w
theorem ixc_56_0 (b off : Nat) (w : World) : (Instr.indexAt 56 (.pointer (some ⟨b, off, none⟩)) (.int .i64 0)).run Tryz.prog w = .ok (.pointer (some ⟨b, off + 0, none⟩)) w := by
  simp [go_sem, Instr.indexAt]
theorem ixc_56_1 (b off : Nat) (w : World) : (Instr.indexAt 56 (.pointer (some ⟨b, off, none⟩)) (.int .i64 1)).run Tryz.prog w = .ok (.pointer (some ⟨b, off + 1, none⟩)) w := by
  simp [go_sem, Instr.indexAt]
theorem ixc_56_2 (b off : Nat) (w : World) : (Instr.indexAt 56 (.pointer (some ⟨b, off, none⟩)) (.int .i64 2)).run Tryz.prog w = .ok (.pointer (some ⟨b, off + 2, none⟩)) w := by
  simp [go_sem, Instr.indexAt]
/-- A fraction of the reference, with its two lists of digits. -/
structure FT where
  x : Rat
  a1 : Option Addr
  c1 : Nat
  a2 : Option Addr
  c2 : Nat
  h1 : (dg x.num.natAbs).length ≤ c1
  h2 : (dg (x.den - 1)).length ≤ c2
abbrev encF (e : FT) : Value := .agg #[.bool (decide (e.x.num < 0)), .slice e.a1 (dg e.x.num.natAbs).length e.c1, .slice e.a2 (dg (e.x.den - 1)).length e.c2]
def FT0 : FT := ⟨0, none, 0, none, 0, by rw [show (0 : Rat).num.natAbs = 0 from rfl, dg_zero]; exact Nat.le_refl _, by rw [show (0 : Rat).den - 1 = 0 from rfl, dg_zero]; exact Nat.le_refl _⟩
abbrev encFP (p : FT × FT × FT) : Value := .agg #[.bool (decide (p.1.x.num < 0)), .slice p.1.a1 (dg p.1.x.num.natAbs).length p.1.c1, .slice p.1.a2 (dg (p.1.x.den - 1)).length p.1.c2,
  .bool (decide (p.2.1.x.num < 0)), .slice p.2.1.a1 (dg p.2.1.x.num.natAbs).length p.2.1.c1, .slice p.2.1.a2 (dg (p.2.1.x.den - 1)).length p.2.1.c2,
  .bool (decide (p.2.2.x.num < 0)), .slice p.2.2.a1 (dg p.2.2.x.num.natAbs).length p.2.2.c1, .slice p.2.2.a2 (dg (p.2.2.x.den - 1)).length p.2.2.c2]
/-- All fractions of a list have their digits. -/
def AllF (l : List FT) : SPred where
  p X w := ∀ e ∈ l, (Row e.a1 (List.map encn (dg e.x.num.natAbs))).p X w ∧ (Row e.a2 (List.map encn (dg (e.x.den - 1)))).p X w
  st X X' w w' h hk hs hX e he := ⟨(Row e.a1 _).st X X' w w' (h e he).1 hk hs hX, (Row e.a2 _).st X X' w w' (h e he).2 hk hs hX⟩
theorem AllF.get1 {l : List FT} {e : FT} {X : Nat → Prop} {w : World} (h : (AllF l).p X w) (he : e ∈ l) : (Row e.a1 (List.map encn (dg e.x.num.natAbs))).p X w := (h e he).1
theorem AllF.get2 {l : List FT} {e : FT} {X : Nat → Prop} {w : World} (h : (AllF l).p X w) (he : e ∈ l) : (Row e.a2 (List.map encn (dg (e.x.den - 1)))).p X w := (h e he).2
def flF (l : List (FT × FT × FT)) : List FT := l.flatMap (fun p => [p.1, p.2.1, p.2.2])
def flI (l : List (Nat × Nat × Nat)) : List Nat := l.flatMap (fun p => [p.1, p.2.1, p.2.2])
theorem cells_flF : ∀ l, cellsOf encFP l = cellsOf encF (flF l)
  | [] => rfl
  | p :: l => by
    have h := cells_flF l
    unfold flF cellsOf at *
    rw [List.flatMap_cons, List.flatMap_cons, List.flatMap_append, ← h]; rfl
theorem cells_flI : ∀ l, cellsOf encI3 l = List.map encn (flI l)
  | [] => rfl
  | p :: l => by
    have h := cells_flI l
    unfold flI cellsOf at *
    rw [List.flatMap_cons, List.flatMap_cons, List.map_append, ← h]; rfl
theorem flF_len : ∀ l, (flF l).length = 3 * l.length
  | [] => rfl
  | p :: l => by
    have h := flF_len l
    unfold flF at *
    rw [List.flatMap_cons, List.length_append, h]; show 3 + 3 * l.length = 3 * (l.length + 1); omega
theorem flI_len : ∀ l, (flI l).length = 3 * l.length
  | [] => rfl
  | p :: l => by
    have h := flI_len l
    unfold flI at *
    rw [List.flatMap_cons, List.length_append, h]; show 3 + 3 * l.length = 3 * (l.length + 1); omega
theorem flF_get : ∀ (l : List (FT × FT × FT)) (n : Nat), n < l.length → (flF l).getD (3 * n + 0) FT0 = (l.getD n (FT0, FT0, FT0)).1 ∧ (flF l).getD (3 * n + 1) FT0 = (l.getD n (FT0, FT0, FT0)).2.1 ∧ (flF l).getD (3 * n + 2) FT0 = (l.getD n (FT0, FT0, FT0)).2.2
  | [], n, h => by simp at h
  | p :: l, 0, _ => ⟨rfl, rfl, rfl⟩
  | p :: l, n + 1, h => flF_get l n (by simpa using h)
theorem flI_get : ∀ (l : List (Nat × Nat × Nat)) (n : Nat), n < l.length → (flI l).getD (3 * n + 0) 0 = (l.getD n (0, 0, 0)).1 ∧ (flI l).getD (3 * n + 1) 0 = (l.getD n (0, 0, 0)).2.1 ∧ (flI l).getD (3 * n + 2) 0 = (l.getD n (0, 0, 0)).2.2
  | [], n, h => by simp at h
  | p :: l, 0, _ => ⟨rfl, rfl, rfl⟩
  | p :: l, n + 1, h => flI_get l n (by simpa using h)
theorem mem_pjL {n s : Nat} {p : Nat × Nat × Nat} : ∀ t, p ∈ pjL n s t ↔ ∃ u, u < t ∧ p = (n - s, s - u, u)
  | 0 => by constructor; (intro h; cases h); (rintro ⟨u, h, _⟩; omega)
  | t + 1 => by
    rw [pjL, List.mem_append, mem_pjL t, List.mem_singleton]
    constructor
    · rintro (⟨u, h, e⟩ | e)
      · exact ⟨u, by omega, e⟩
      · exact ⟨t, by omega, e⟩
    · rintro ⟨u, h, e⟩
      rcases Nat.lt_or_ge u t with h1 | h1
      · exact .inl ⟨u, h1, e⟩
      · rw [show u = t by omega] at e; exact .inr e
theorem mem_poL {n : Nat} {p : Nat × Nat × Nat} : ∀ s, p ∈ poL n s ↔ ∃ s', s' < s ∧ ∃ u, u < s' + 1 ∧ p = (n - s', s' - u, u)
  | 0 => by constructor; (intro h; cases h); (rintro ⟨u, h, _⟩; omega)
  | s + 1 => by
    rw [poL, List.mem_append, mem_poL s, mem_pjL]
    constructor
    · rintro (⟨s', h, e⟩ | e)
      · exact ⟨s', by omega, e⟩
      · exact ⟨s, by omega, e⟩
    · rintro ⟨s', h, e⟩
      rcases Nat.lt_or_ge s' s with h1 | h1
      · exact .inl ⟨s', h1, e⟩
      · rw [show s' = s by omega] at e; exact .inr e
theorem mem_ptsL {n : Nat} {p : Nat × Nat × Nat} : p ∈ ptsL n ↔ p.1 + p.2.1 + p.2.2 = n := by
  unfold ptsL; rw [mem_poL]
  constructor
  · rintro ⟨s, h, u, hu, rfl⟩; simp only; omega
  · intro h
    refine ⟨p.2.1 + p.2.2, by omega, p.2.2, by omega, ?_⟩
    rw [show n - (p.2.1 + p.2.2) = p.1 by omega, show p.2.1 + p.2.2 - p.2.2 = p.2.1 by omega]
theorem ptT (d r : Nat) (hr : r < (ptsL d).length) : (flI (ptsL d)).getD (3 * r + 0) 0 + (flI (ptsL d)).getD (3 * r + 1) 0 + (flI (ptsL d)).getD (3 * r + 2) 0 = d := by
  obtain ⟨e1, e2, e3⟩ := flI_get (ptsL d) r hr
  rw [e1, e2, e3]
  exact mem_ptsL.1 (getD_mem _ hr)
def vk (w : Rat) (P : List FT) (T : List Nat) (n r : Nat) : Nat → Rat
  | 0 => w
  | k + 1 => vk w P T n r k * (P.getD (3 * n + k) FT0).x ^ (T.getD (3 * r + k) 0)
def rsumQ (P W : List FT) (T : List Nat) (r : Nat) : Nat → Rat
  | 0 => 0
  | n + 1 => rsumQ P W T r n + vk (W.getD n FT0).x P T n r 3
def psQ (ps : List (FT × FT × FT)) : List (Rat × Rat × Rat) := ps.map (fun p => (p.1.x, p.2.1.x, p.2.2.x))
theorem getD_map' {α β : Type} (f : α → β) (l : List α) (n : Nat) (d : α) (e : β) (h : n < l.length) : (l.map f).getD n e = f (l.getD n d) := by
  simp [List.getD, h]
theorem rsum_msum (ps : List (FT × FT × FT)) (ws : List FT) (d r : Nat) (hl : ps.length = ws.length) (hr : r < (ptsL d).length) : ∀ n, n ≤ ps.length →
    rsumQ (flF ps) ws (flI (ptsL d)) r n = msum (psQ ps) (ws.map FT.x) ((flI (ptsL d)).getD (3 * r + 0) 0) ((flI (ptsL d)).getD (3 * r + 1) 0) ((flI (ptsL d)).getD (3 * r + 2) 0) n
  | 0, _ => rfl
  | n + 1, h => by
    rw [rsumQ, msum, rsum_msum ps ws d r hl hr n (by omega)]
    obtain ⟨e1, e2, e3⟩ := flF_get ps n (by omega)
    congr 1
    rw [getD_map' FT.x ws n FT0 0 (by omega), psQ, getD_map' _ ps n (FT0, FT0, FT0) _ (by omega)]
    rw [vk, vk, vk, vk, e1, e2, e3, Rat.mul_assoc, Rat.mul_assoc]
theorem ref_ok {ps : List (FT × FT × FT)} {ws : List FT} {d : Nat} (hl : ps.length = ws.length)
    (h : ∀ r, r < (ptsL d).length → rsumQ (flF ps) ws (flI (ptsL d)) r ps.length = momentQ ((flI (ptsL d)).getD (3 * r + 0) 0) ((flI (ptsL d)).getD (3 * r + 1) 0) ((flI (ptsL d)).getD (3 * r + 2) 0)) : okDeg (psQ ps) (ws.map FT.x) d := by
  intro i hi j hj
  obtain ⟨r, hr, e⟩ := List.mem_iff_getElem.1 (mem_ptsL (n := d) (p := (i, j, d - i - j)).2 (by simp only; omega))
  have h1 := h r hr
  rw [rsum_msum ps ws d r hl hr _ (Nat.le_refl _)] at h1
  obtain ⟨e1, e2, e3⟩ := flI_get (ptsL d) r hr
  have e4 : (ptsL d).getD r (0, 0, 0) = (i, j, d - i - j) := by rw [← e]; simp [List.getD, hr]
  rw [e1, e2, e3, e4] at h1
  rw [List.length_map, ← hl]; exact h1
theorem ref_bad {ps : List (FT × FT × FT)} {ws : List FT} {d r : Nat} (hl : ps.length = ws.length) (hr : r < (ptsL d).length)
    (h : ¬ rsumQ (flF ps) ws (flI (ptsL d)) r ps.length = momentQ ((flI (ptsL d)).getD (3 * r + 0) 0) ((flI (ptsL d)).getD (3 * r + 1) 0) ((flI (ptsL d)).getD (3 * r + 2) 0)) : ¬ okDeg (psQ ps) (ws.map FT.x) d := by
  intro hok
  apply h
  have hs := ptT d r hr
  rw [rsum_msum ps ws d r hl hr _ (Nat.le_refl _)]
  generalize (flI (ptsL d)).getD (3 * r + 0) 0 = i at *
  generalize (flI (ptsL d)).getD (3 * r + 1) 0 = j at *
  generalize (flI (ptsL d)).getD (3 * r + 2) 0 = k at *
  have h1 := hok i (by omega) j (by omega)
  rw [show d - i - j = k by omega, List.length_map, ← hl] at h1
  exact h1
theorem AllF.nil (X : Nat → Prop) (w : World) : (AllF []).p X w := fun e he => by cases he
theorem AllF.snoc {l : List FT} {e : FT} {X : Nat → Prop} {w : World} (h : (AllF l).p X w) (h1 : (Row e.a1 (List.map encn (dg e.x.num.natAbs))).p X w) (h2 : (Row e.a2 (List.map encn (dg (e.x.den - 1)))).p X w) : (AllF (l ++ [e])).p X w := by
  intro f hf
  rcases List.mem_append.1 hf with hf | hf
  · exact h f hf
  · rw [List.mem_singleton] at hf; subst hf; exact ⟨h1, h2⟩
theorem flF_snoc (l : List (FT × FT × FT)) (p : FT × FT × FT) : flF (l ++ [p]) = ((flF l ++ [p.1]) ++ [p.2.1]) ++ [p.2.2] := by
  unfold flF; rw [List.flatMap_append]; simp
theorem lenQ_vk (w : Rat) (P : List FT) (T : List Nat) (n r : Nat) (hw : lenQ w ≤ 1000) : ∀ k, (∀ j, j < k → lenQ (P.getD (3 * n + j) FT0).x ≤ 1000 ∧ T.getD (3 * r + j) 0 ≤ 12) → lenQ (vk w P T n r k) ≤ 1000 + 12002 * k
  | 0, _ => hw
  | k + 1, h => by
    have h1 := lenQ_vk w P T n r hw k (fun j hj => h j (by omega))
    obtain ⟨h2, h3⟩ := h k (by omega)
    have h4 := lenQ_powle (P.getD (3 * n + k) FT0).x (T.getD (3 * r + k) 0) 1000 12 h2 h3
    have h5 := lenQ_mul (vk w P T n r k) ((P.getD (3 * n + k) FT0).x ^ (T.getD (3 * r + k) 0))
    rw [vk]; omega
theorem lenQ_rsum (P W : List FT) (T : List Nat) (r : Nat) (hW : ∀ e ∈ W, lenQ e.x ≤ 1000) (hT : ∀ k, k < 3 → T.getD (3 * r + k) 0 ≤ 12) : ∀ n, n ≤ W.length → (∀ j, j < 3 * n → lenQ (P.getD j FT0).x ≤ 1000) → lenQ (rsumQ P W T r n) ≤ 2 + 40000 * n
  | 0, _, _ => by have := lenQ_zero; exact this
  | n + 1, h, hP => by
    have h1 := lenQ_rsum P W T r hW hT n (by omega) (fun j hj => hP j (by omega))
    have h2 := lenQ_vk (W.getD n FT0).x P T n r (hW _ (getD_mem _ (by omega))) 3 (fun j hj => ⟨hP _ (by omega), hT j hj⟩)
    have h3 := lenQ_add (rsumQ P W T r n) (vk (W.getD n FT0).x P T n r 3)
    rw [rsumQ]; omega

theorem C_rExact (ad1 ad2 : Option Addr) (c1 c2 : Nat) (ps : List (FT × FT × FT)) (ws : List FT) (hnp : ps.length ≤ 1000) (hl : ps.length = ws.length) (hps : ∀ e ∈ flF ps, lenQ e.x ≤ 1000) (hws : ∀ e ∈ ws, lenQ e.x ≤ 1000) :
    CtrW Tryz.prog 27 [.slice ad1 ps.length c1, .slice ad2 ws.length c2] [Row ad1 (cellsOf encFP ps), AllF (flF ps), Row ad2 (cellsOf encF ws), AllF ws] (.int .i64 (exactI (psQ ps) (ws.map FT.x))) := by
  refine fn_intro Tryz.func27 rfl Tryz.ntmps27 nb ?_
  intro S w0 a hS h
  rw [cells_flF ps] at h
  have hfl := flF_len ps
  refine gC h (zs (zr (za rfl (zn (zs (zs (zr (za rfl (zn (zb ?_)))))))))); clear h; intro a w h
  refine wp_loop_inv (fun (d : Nat) a w => d ≤ 13 ∧ (∀ x, x < d → okDeg (psQ ps) (ws.map FT.x) x) ∧ St 77 S w0 [(0, .slice ad1 ps.length c1), (1, .slice ad2 ws.length c2), (5, .int .i64 ((d : Nat) : Int))] [] [Row ad1 (cellsOf encF (flF ps)), AllF (flF ps), Row ad2 (cellsOf encF ws), AllF ws] a w) (fun d => 13 - d) 0 (⟨Nat.zero_le _, fun x hx => absurd hx (Nat.not_lt_zero _), by exact (h.factsSub (by simp)).sub (subL ⟨rfl, rfl, rfl, trivial⟩)⟩) ?_; clear h
  rintro d a w ⟨hi_d, hinv_d, h⟩
  refine gC h (zs (zs (zr (zm rfl (zp (.leq rfl rfl) (zn ?_)))))); clear h; intro a w h
  change Code.wp _ _ _ _ _
  refine cond_split h rfl (fun hc13 => ?_) (fun hc13 => ?_)
  · skip
    have hlt_d : d < 13 := by have := of_decide_eq_true hc13; omega
    refine gC h (zk (zs (zb (zs (zr (zm rfl (zf [_] rfl Tryz.call17 (C_Points d (by omega)) ?_))))))); clear h; rintro v17 Ψ17 ⟨ad17, c17, rfl, rfl⟩ a w h
    rw [cells_flI (ptsL d)] at h
    have hil := flI_len (ptsL d)
    have hpl : (ptsL d).length ≤ 14 * (d + 1) := poL_len d (d + 1) (by omega)
    refine gL h (za rfl (zn (zs (zr (za rfl (zn (zb ?_))))))); clear h; intro a w h
    refine wp_loop_inv (fun (r : Nat) a w => r ≤ (ptsL d).length ∧ (∀ r', r' < r → rsumQ (flF ps) ws (flI (ptsL d)) r' ps.length = momentQ ((flI (ptsL d)).getD (3 * r' + 0) 0) ((flI (ptsL d)).getD (3 * r' + 1) 0) ((flI (ptsL d)).getD (3 * r' + 2) 0)) ∧ St 77 S w0 [(0, .slice ad1 ps.length c1), (1, .slice ad2 ws.length c2), (5, .int .i64 ((d : Nat) : Int)), (6, .slice ad17 ((ptsL d).length) c17), (7, .int .i64 ((r : Nat) : Int))] [] [Row ad17 (List.map encn (flI (ptsL d))), Row ad1 (cellsOf encF (flF ps)), AllF (flF ps), Row ad2 (cellsOf encF ws), AllF ws] a w) (fun r => (ptsL d).length - r) 0 (⟨Nat.zero_le _, fun x hx => absurd hx (Nat.not_lt_zero _), by exact (h.factsSub (by simp)).sub (subL ⟨rfl, rfl, rfl, rfl, rfl, trivial⟩)⟩) ?_; clear h
    rintro r a w ⟨hi_r, hinv_r, h⟩
    refine gC h (zs (zs (zr (zm rfl (zm rfl (zp (.builtin [_] rfl (len_slice_53 _ _ _)) (zp (.lss rfl rfl) (zn ?_)))))))); clear h; intro a w h
    change Code.wp _ _ _ _ _
    refine cond_split h rfl (fun hc21 => ?_) (fun hc21 => ?_)
    · skip
      have hlt_r : r < (ptsL d).length := by have := of_decide_eq_true hc21; omega
      obtain ⟨B_ad17, O_ad17, rfl⟩ := h.row_addr (ad := ad17) (M := List.map encn (flI (ptsL d))) mm (by intro e; have := congrArg List.length e; simp only [List.length_map, List.length_nil] at this; omega)
      have hsum := ptT d r hlt_r
      have hT : ∀ k, k < 3 → (flI (ptsL d)).getD (3 * r + k) 0 ≤ 12 := by
        intro k hk
        match k, hk with
        | 0, _ => omega
        | 1, _ => omega
        | 2, _ => omega
      have hT0 := hT 0 (by decide)
      have hT1 := hT 1 (by decide)
      have hT2 := hT 2 (by decide)
      refine gC h (zk (zs (zb (zs (zr (zz zeroF fun b8 => zn (zs (zs (zr (za rfl (zn (zb ?_)))))))))))); clear h; intro a w h
      replace h := h.derive (R := Row none (List.map encn (dg ((0 : Rat).den - 1)))) (fun X hX => by rw [show ((0 : Rat).den - 1) = 0 from rfl, dg_zero]; exact fun hne => absurd rfl hne)
      replace h := h.derive (R := Row none (List.map encn (dg (0 : Rat).num.natAbs))) (fun X hX => by rw [show (0 : Rat).num.natAbs = 0 from rfl, dg_zero]; exact fun hne => absurd rfl hne)
      refine wp_loop_inv (fun (n : Nat) a w => n ≤ ps.length ∧ ∃ p1 p2 p3 p4, ((dg (rsumQ (flF ps) ws (flI (ptsL d)) r n).num.natAbs).length ≤ p2 ∧ (dg ((rsumQ (flF ps) ws (flI (ptsL d)) r n).den - 1)).length ≤ p4) ∧ St 77 S w0 [(0, .slice ad1 ps.length c1), (1, .slice ad2 ws.length c2), (5, .int .i64 ((d : Nat) : Int)), (6, .slice (some ⟨B_ad17, O_ad17, none⟩) ((ptsL d).length) c17), (7, .int .i64 ((r : Nat) : Int)), (8, .pointer (some ⟨b8, 0, none⟩)), (9, .int .i64 ((n : Nat) : Int))] [(b8, .cells (Value.cells (.agg #[.bool (decide ((rsumQ (flF ps) ws (flI (ptsL d)) r n).num < 0)), .slice p1 (dg (rsumQ (flF ps) ws (flI (ptsL d)) r n).num.natAbs).length p2, .slice p3 (dg ((rsumQ (flF ps) ws (flI (ptsL d)) r n).den - 1)).length p4])) 50 (0, 0))] [Row p1 (List.map encn (dg (rsumQ (flF ps) ws (flI (ptsL d)) r n).num.natAbs)), Row p3 (List.map encn (dg ((rsumQ (flF ps) ws (flI (ptsL d)) r n).den - 1))), Row (some ⟨B_ad17, O_ad17, none⟩) (List.map encn (flI (ptsL d))), Row ad1 (cellsOf encF (flF ps)), AllF (flF ps), Row ad2 (cellsOf encF ws), AllF ws] a w) (fun n => ps.length - n) 0 (⟨Nat.zero_le _, none, 0, none, 0, ⟨FT0.h1, FT0.h2⟩, by rw [show rsumQ (flF ps) ws (flI (ptsL d)) r 0 = 0 from rfl]; exact (h.factsSub (by simp)).sub (subL ⟨rfl, rfl, rfl, rfl, rfl, rfl, rfl, trivial⟩)⟩) ?_; clear h
      rintro n a w ⟨hi_n, p1, p2, p3, p4, ⟨hp2, hp4⟩, h⟩
      refine gC h (zs (zs (zr (zm rfl (zm rfl (zp (.builtin [_] rfl (len_slice_63 _ _ _)) (zp (.lss rfl rfl) (zn ?_)))))))); clear h; intro a w h
      change Code.wp _ _ _ _ _
      refine cond_split h rfl (fun hc27 => ?_) (fun hc27 => ?_)
      · skip
        have hlt_n : n < ps.length := by have := of_decide_eq_true hc27; omega
        obtain ⟨B_ad1, O_ad1, rfl⟩ := h.row_addr (ad := ad1) (M := cellsOf encF (flF ps)) mm (by intro e; have := congrArg List.length e; rw [cellsOf_length (k := 3) (fun _ => rfl)] at this; simp only [List.length_nil, Nat.mul_eq_zero] at this; omega)
        obtain ⟨B_ad2, O_ad2, rfl⟩ := h.row_addr (ad := ad2) (M := cellsOf encF ws) mm (by intro e; have := congrArg List.length e; rw [cellsOf_length (k := 3) (fun _ => rfl)] at this; simp only [List.length_nil, Nat.mul_eq_zero] at this; omega)
        have hwn : ws.getD n FT0 ∈ ws := getD_mem _ (by omega)
        have hwl := hws _ hwn
        have hrl := lenQ_rsum (flF ps) ws (flI (ptsL d)) r hws hT n (by omega) (fun j hj => hps _ (getD_mem _ (by omega)))
        replace h := h.derive (R := Row (ws.getD n FT0).a2 (List.map encn (dg ((ws.getD n FT0).x.den - 1)))) (fun X hX => AllF.get2 (hX _ mm) hwn)
        replace h := h.derive (R := Row (ws.getD n FT0).a1 (List.map encn (dg (ws.getD n FT0).x.num.natAbs))) (fun X hX => AllF.get1 (hX _ mm) hwn)
        refine gC h (zk (zs (zb (zs (zr (zm rfl (zm rfl (zp (.indexAddr rfl rfl (ix_51 _ _ _ _ _ (by omega))) (zD rfl mm (cells_lt (k := 3) (by decide) (fun _ => rfl) ws n (by omega)) Tryz.isAgg50 Tryz.sizeOf50 (read_cells (k := 3) (fun _ => rfl) ((fun _ => rfl)) ws FT0 n (by omega)) (.inl rfl) ?_))))))))); clear h; intro a w h
        refine gL h (zz zeroF fun b10 => zt' rfl rfl (st_3_0_3 _ _ _ _ _ _) uu Tryz.sizeOf50 rfl nb rfl ?_); clear h; intro a w h
        refine gL h (zn (zs (zs (zr (za rfl (zn (zb ?_))))))); clear h; intro a w h
        refine wp_loop_inv (fun (k : Nat) a w => k ≤ 3 ∧ ∃ q1 q2 q3 q4, ((dg (vk (ws.getD n FT0).x (flF ps) (flI (ptsL d)) n r k).num.natAbs).length ≤ q2 ∧ (dg ((vk (ws.getD n FT0).x (flF ps) (flI (ptsL d)) n r k).den - 1)).length ≤ q4) ∧ St 77 S w0 [(0, .slice (some ⟨B_ad1, O_ad1, none⟩) ps.length c1), (1, .slice (some ⟨B_ad2, O_ad2, none⟩) ws.length c2), (5, .int .i64 ((d : Nat) : Int)), (6, .slice (some ⟨B_ad17, O_ad17, none⟩) ((ptsL d).length) c17), (7, .int .i64 ((r : Nat) : Int)), (8, .pointer (some ⟨b8, 0, none⟩)), (9, .int .i64 ((n : Nat) : Int)), (10, .pointer (some ⟨b10, 0, none⟩)), (11, .int .i64 ((k : Nat) : Int))] [(b10, .cells (Value.cells (.agg #[.bool (decide ((vk (ws.getD n FT0).x (flF ps) (flI (ptsL d)) n r k).num < 0)), .slice q1 (dg (vk (ws.getD n FT0).x (flF ps) (flI (ptsL d)) n r k).num.natAbs).length q2, .slice q3 (dg ((vk (ws.getD n FT0).x (flF ps) (flI (ptsL d)) n r k).den - 1)).length q4])) 50 (0, 0)), (b8, .cells (Value.cells (.agg #[.bool (decide ((rsumQ (flF ps) ws (flI (ptsL d)) r n).num < 0)), .slice p1 (dg (rsumQ (flF ps) ws (flI (ptsL d)) r n).num.natAbs).length p2, .slice p3 (dg ((rsumQ (flF ps) ws (flI (ptsL d)) r n).den - 1)).length p4])) 50 (0, 0))] [Row q1 (List.map encn (dg (vk (ws.getD n FT0).x (flF ps) (flI (ptsL d)) n r k).num.natAbs)), Row q3 (List.map encn (dg ((vk (ws.getD n FT0).x (flF ps) (flI (ptsL d)) n r k).den - 1))), Row p1 (List.map encn (dg (rsumQ (flF ps) ws (flI (ptsL d)) r n).num.natAbs)), Row p3 (List.map encn (dg ((rsumQ (flF ps) ws (flI (ptsL d)) r n).den - 1))), Row (some ⟨B_ad17, O_ad17, none⟩) (List.map encn (flI (ptsL d))), Row (some ⟨B_ad1, O_ad1, none⟩) (cellsOf encF (flF ps)), AllF (flF ps), Row (some ⟨B_ad2, O_ad2, none⟩) (cellsOf encF ws), AllF ws] a w) (fun k => 3 - k) 0 (⟨Nat.zero_le _, (ws.getD n FT0).a1, (ws.getD n FT0).c1, (ws.getD n FT0).a2, (ws.getD n FT0).c2, ⟨(ws.getD n FT0).h1, (ws.getD n FT0).h2⟩, by rw [show vk (ws.getD n FT0).x (flF ps) (flI (ptsL d)) n r 0 = (ws.getD n FT0).x from rfl]; exact (h.factsSub (by simp)).sub (subL ⟨rfl, rfl, rfl, rfl, rfl, rfl, rfl, rfl, rfl, trivial⟩)⟩) ?_; clear h
        rintro k a w ⟨hi_k, q1, q2, q3, q4, ⟨hq2, hq4⟩, h⟩
        refine gC h (zs (zs (zr (zm rfl (zp (.lss rfl rfl) (zn ?_)))))); clear h; intro a w h
        change Code.wp _ _ _ _ _
        refine cond_split h rfl (fun hc35 => ?_) (fun hc35 => ?_)
        · skip
          have hlt_k : k < 3 := by have := of_decide_eq_true hc35; omega
          have hvl := lenQ_vk (ws.getD n FT0).x (flF ps) (flI (ptsL d)) n r hwl k (fun j hj => ⟨hps _ (getD_mem _ (by omega)), hT j (by omega)⟩)
          have hem : (flF ps).getD (3 * n + k) FT0 ∈ flF ps := getD_mem _ (by omega)
          have hel := hps _ hem
          have hTk := hT k hlt_k
          replace h := h.derive (R := Row ((flF ps).getD (3 * n + k) FT0).a2 (List.map encn (dg (((flF ps).getD (3 * n + k) FT0).x.den - 1)))) (fun X hX => AllF.get2 (hX _ mm) hem)
          replace h := h.derive (R := Row ((flF ps).getD (3 * n + k) FT0).a1 (List.map encn (dg ((flF ps).getD (3 * n + k) FT0).x.num.natAbs))) (fun X hX => AllF.get1 (hX _ mm) hem)
          refine gC h (zk (zs (zb (yD mixed_YtfmbhcnanphckaaGreatDoor [0, 1, 2, 3, 4, 5, 6, 7, 8, 9, 10, 11, 12, 13, 14, 15] (floatsOK_none (by kernel_rfl)) (yd rfl rfl mr Tryz.isAgg50 Tryz.sizeOf50 (rd_3_0_3 _ _ _) ?_))))); clear h
          refine yp rfl (.move rfl) (yp rfl (.move rfl) (yp rfl (.move rfl) (yp rfl (.indexAddr rfl rfl (ix_63 _ _ _ _ _ (by omega))) (yp rfl (Pure1.cast (v' := .pointer (some ⟨B_ad1, O_ad1 + (3 * n + k) * 3, none⟩)) (.indexAddr rfl rfl (ixv_72 _ _ _ (by omega))) (by rw [show O_ad1 + n * 9 + k * 3 = O_ad1 + (3 * n + k) * 3 by omega])) ?_))))
          refine head_loadRow rfl (by kernel_rfl) rfl mm (cells_lt (k := 3) (by decide) (fun _ => rfl) (flF ps) (3 * n + k) (by omega)) Tryz.isAgg50 Tryz.sizeOf50 (read_cells (k := 3) (fun _ => rfl) ((fun _ => rfl)) (flF ps) FT0 (3 * n + k) (by omega)) (.inl rfl) (by decide) ?_
          refine yp rfl (.move rfl) (yp rfl (.move rfl) (yp rfl (.move rfl) (yp rfl (.indexAddr rfl rfl (ix_53 _ _ _ _ _ (by omega))) (yp rfl (Pure1.cast (v' := .pointer (some ⟨B_ad17, O_ad17 + (3 * r + k), none⟩)) (.indexAddr rfl rfl (ixv_56 _ _ _ (by omega))) (by rw [show O_ad17 + r * 3 + k * 1 = O_ad17 + (3 * r + k) by omega])) ?_))))
          refine head_loadRow rfl (by kernel_rfl) rfl mm (by rw [List.length_map]; omega) Tryz.isAgg3 Tryz.sizeOf3 (read_row (enc := encn) (l := (flI (ptsL d))) 0 (by omega)) (.inr rfl) (by decide) ?_
          refine yf [_, _] rfl rfl Tryz.call53 (C_rPow _ _ _ _ (((flF ps).getD (3 * n + k) FT0).x) ((flI (ptsL d)).getD (3 * r + k) 0) (by omega) (by omega)) ?_; rintro v51 Ψ51 ⟨ad51, c51, bd51, d51, rfl, hle51, hlf51, rfl⟩
          have hl51 := lenQ_powle (((flF ps).getD (3 * n + k) FT0).x) ((flI (ptsL d)).getD (3 * r + k) 0) 1000 12 (by omega) (by omega)
          refine yf [_, _] rfl rfl Tryz.call56 (C_fMul _ _ _ _ _ _ _ _ (vk (ws.getD n FT0).x (flF ps) (flI (ptsL d)) n r k) ((((flF ps).getD (3 * n + k) FT0).x) ^ ((flI (ptsL d)).getD (3 * r + k) 0)) (by omega) (by omega)) ?_; rintro v52 Ψ52 ⟨ad52, c52, bd52, d52, rfl, hle52, hlf52, rfl⟩
          have hl52 := lenQ_mul (vk (ws.getD n FT0).x (flF ps) (flI (ptsL d)) n r k) ((((flF ps).getD (3 * n + k) FT0).x) ^ ((flI (ptsL d)).getD (3 * r + k) 0))
          refine yt rfl rfl rfl (st_3_0_3 _ _ _ _ _ _) uu Tryz.sizeOf50 rfl nb rfl ?_
          refine yn (zr (zm rfl (zp (Pure1.cast (v' := (.int .i64 ((k + 1 : Nat) : Int))) (.add rfl rfl) (by show Value.int _ _ = Value.int _ _; congr 1)) (za rfl (zn ?_))))); intro a w h
          rw [show vk (ws.getD n FT0).x (flF ps) (flI (ptsL d)) n r k * ((flF ps).getD (3 * n + k) FT0).x ^ ((flI (ptsL d)).getD (3 * r + k) 0) = vk (ws.getD n FT0).x (flF ps) (flI (ptsL d)) n r (k + 1) from rfl] at h hle52 hlf52
          exact ⟨k + 1, ⟨by omega, ad52, c52, bd52, d52, ⟨hle52, hlf52⟩, by exact (h.factsSub (by simp)).sub sA⟩, by omega⟩
        · skip
          have heq_k : 3 = k := by have := of_decide_eq_false hc35; omega
          subst heq_k
          have hvl := lenQ_vk (ws.getD n FT0).x (flF ps) (flI (ptsL d)) n r hwl 3 (fun j hj => ⟨hps _ (getD_mem _ (by omega)), hT j (by omega)⟩)
          refine gC h (ze (zr (zd rfl mr Tryz.isAgg50 Tryz.sizeOf50 (rd_3_0_3 _ _ _) ?_))); clear h; intro a w h
          refine gL h (zd rfl mr Tryz.isAgg50 Tryz.sizeOf50 (rd_3_0_3 _ _ _) ?_); clear h; intro a w h
          refine gL h (zf [_, _] rfl Tryz.call63 (C_fAdd _ _ _ _ _ _ _ _ (rsumQ (flF ps) ws (flI (ptsL d)) r n) (vk (ws.getD n FT0).x (flF ps) (flI (ptsL d)) n r 3) (by omega) (by omega)) ?_); clear h; rintro v55 Ψ55 ⟨ad55, c55, bd55, d55, rfl, hle55, hlf55, rfl⟩ a w h
          have hl55 := lenQ_add (rsumQ (flF ps) ws (flI (ptsL d)) r n) (vk (ws.getD n FT0).x (flF ps) (flI (ptsL d)) n r 3)
          refine gL h (zt' rfl rfl (st_3_0_3 _ _ _ _ _ _) uu Tryz.sizeOf50 rfl nb rfl ?_); clear h; intro a w h
          refine gL h (zn (zr (zm rfl (zp (Pure1.cast (v' := (.int .i64 ((n + 1 : Nat) : Int))) (.add rfl rfl) (by show Value.int _ _ = Value.int _ _; congr 1)) (za rfl (zn ?_)))))); clear h; intro a w h
          rw [show rsumQ (flF ps) ws (flI (ptsL d)) r n + vk (ws.getD n FT0).x (flF ps) (flI (ptsL d)) n r 3 = rsumQ (flF ps) ws (flI (ptsL d)) r (n + 1) from rfl] at h hle55 hlf55
          exact ⟨n + 1, ⟨by omega, ad55, c55, bd55, d55, ⟨hle55, hlf55⟩, by exact ((h.drop sl).factsSub (by simp)).sub sA⟩, by omega⟩
      · skip
        have heq_n : ps.length = n := by have := of_decide_eq_false hc27; omega
        subst heq_n
        have hrl := lenQ_rsum (flF ps) ws (flI (ptsL d)) r hws hT ps.length (by omega) (fun j hj => hps _ (getD_mem _ (by omega)))
        refine gC h (ze (zs (yD mixed_YtfmbhcnanphckaaGreatDoor [0, 1, 2, 3, 4, 5, 6, 7, 8, 9, 10, 11, 12, 13, 14, 15, 16, 17, 18] (floatsOK_none (by kernel_rfl)) (yd rfl rfl mr Tryz.isAgg50 Tryz.sizeOf50 (rd_3_0_3 _ _ _) ?_)))); clear h
        refine yp rfl (.move rfl) (yp rfl (.move rfl) (yp rfl (.indexAddr rfl rfl (ix_53 _ _ _ _ _ (by omega))) (yp rfl (Pure1.cast (v' := .pointer (some ⟨B_ad17, O_ad17 + (3 * r + 0), none⟩)) (.indexAddr rfl rfl (ixc_56_0 _ _)) (by rw [show O_ad17 + r * 3 + 0 = O_ad17 + (3 * r + 0) by omega])) ?_)))
        refine head_loadRow rfl (by kernel_rfl) rfl mm (by rw [List.length_map]; omega) Tryz.isAgg3 Tryz.sizeOf3 (read_row (enc := encn) (l := (flI (ptsL d))) 0 (by omega)) (.inr rfl) (by decide) ?_
        refine yp rfl (.move rfl) (yp rfl (.move rfl) (yp rfl (.indexAddr rfl rfl (ix_53 _ _ _ _ _ (by omega))) (yp rfl (Pure1.cast (v' := .pointer (some ⟨B_ad17, O_ad17 + (3 * r + 1), none⟩)) (.indexAddr rfl rfl (ixc_56_1 _ _)) (by rw [show O_ad17 + r * 3 + 1 = O_ad17 + (3 * r + 1) by omega])) ?_)))
        refine head_loadRow rfl (by kernel_rfl) rfl mm (by rw [List.length_map]; omega) Tryz.isAgg3 Tryz.sizeOf3 (read_row (enc := encn) (l := (flI (ptsL d))) 0 (by omega)) (.inr rfl) (by decide) ?_
        refine yp rfl (.move rfl) (yp rfl (.move rfl) (yp rfl (.indexAddr rfl rfl (ix_53 _ _ _ _ _ (by omega))) (yp rfl (Pure1.cast (v' := .pointer (some ⟨B_ad17, O_ad17 + (3 * r + 2), none⟩)) (.indexAddr rfl rfl (ixc_56_2 _ _)) (by rw [show O_ad17 + r * 3 + 2 = O_ad17 + (3 * r + 2) by omega])) ?_)))
        refine head_loadRow rfl (by kernel_rfl) rfl mm (by rw [List.length_map]; omega) Tryz.isAgg3 Tryz.sizeOf3 (read_row (enc := encn) (l := (flI (ptsL d))) 0 (by omega)) (.inr rfl) (by decide) ?_
        refine yf [_, _, _] rfl rfl Tryz.call57 (C_rMoment ((flI (ptsL d)).getD (3 * r + 0) 0) ((flI (ptsL d)).getD (3 * r + 1) 0) ((flI (ptsL d)).getD (3 * r + 2) 0) (by omega) (by omega) (by omega)) ?_; rintro v72 Ψ72 ⟨ad72, c72, bd72, d72, rfl, hle72, hlf72, rfl⟩
        have hl72 := lenQ_moment ((flI (ptsL d)).getD (3 * r + 0) 0) ((flI (ptsL d)).getD (3 * r + 1) 0) ((flI (ptsL d)).getD (3 * r + 2) 0) (by omega) (by omega) (by omega)
        refine yw [_, _] rfl rfl Tryz.call67 (C_fSame _ _ _ _ _ _ _ _ (rsumQ (flF ps) ws (flI (ptsL d)) r ps.length) (momentQ ((flI (ptsL d)).getD (3 * r + 0) 0) ((flI (ptsL d)).getD (3 * r + 1) 0) ((flI (ptsL d)).getD (3 * r + 2) 0)) (by omega) (by omega)) (yp rfl (.unOp rfl (un_not _)) (yn ?_)); intro a w h
        change Code.wp _ _ _ _ _
        refine cond_split h rfl (fun hc74 => ?_) (fun hc74 => ?_)
        · skip
          have hbad : ¬ rsumQ (flF ps) ws (flI (ptsL d)) r ps.length = momentQ ((flI (ptsL d)).getD (3 * r + 0) 0) ((flI (ptsL d)).getD (3 * r + 1) 0) ((flI (ptsL d)).getD (3 * r + 2) 0) := by simpa using hc74
          refine gC h (zs (zr (zm rfl (zp (.sub rfl rfl) (za rfl (zn (zt ?_))))))); clear h; intro a w h
          refine retV h (results1 h rfl (.tmp rfl)) ?_
          unfold exactI; rw [exN_end _ _ 13 0 d (Nat.zero_le _) (by omega) (fun x _ hx => hinv_d x hx) (.inr (ref_bad hl hlt_r hbad))]
        · skip
          have hgood : rsumQ (flF ps) ws (flI (ptsL d)) r ps.length = momentQ ((flI (ptsL d)).getD (3 * r + 0) 0) ((flI (ptsL d)).getD (3 * r + 1) 0) ((flI (ptsL d)).getD (3 * r + 2) 0) := by simpa using hc74
          refine gC h (zk (zr (zm rfl (zp (Pure1.cast (v' := (.int .i64 ((r + 1 : Nat) : Int))) (.add rfl rfl) (by show Value.int _ _ = Value.int _ _; congr 1)) (za rfl (zn ?_)))))); clear h; intro a w h
          exact ⟨r + 1, ⟨by omega, fun x hx => by rcases Nat.lt_or_ge x r with h | h; exact hinv_r x h; rw [show x = r by omega]; exact hgood, ((h.drop sl).factsSub (by simp)).sub sA⟩, by omega⟩
    · skip
      have heq_r : (ptsL d).length = r := by have := of_decide_eq_false hc21; omega
      subst heq_r
      refine gC h (ze (zr (zm rfl (zp (Pure1.cast (v' := (.int .i64 ((d + 1 : Nat) : Int))) (.add rfl rfl) (by show Value.int _ _ = Value.int _ _; congr 1)) (za rfl (zn ?_)))))); clear h; intro a w h
      exact ⟨d + 1, ⟨by omega, fun x hx => by rcases Nat.lt_or_ge x d with h | h; exact hinv_d x h; rw [show x = d by omega]; exact ref_ok hl hinv_r, (h.factsSub (by simp)).sub sA⟩, by omega⟩
  · skip
    have heq_d : 13 = d := by have := of_decide_eq_false hc13; omega
    subst heq_d
    refine gC h (ze (zs (zr (za rfl (zn (zt ?_)))))); clear h; intro a w h
    refine retV h (results1 h rfl (.tmp rfl)) ?_
    unfold exactI; rw [exN_end _ _ 13 0 13 (Nat.zero_le _) (by omega) (fun x _ hx => hinv_d x hx) (.inl rfl)]; rfl
end Go.Proofs.YtfmbhcnanphckaaGreatDoor
