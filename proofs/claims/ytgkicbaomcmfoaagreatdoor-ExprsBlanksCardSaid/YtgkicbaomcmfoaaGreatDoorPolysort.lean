/- Written by a program of ours (gen.py) out of short specifications. By an AI agent. -/
import Derived.Test.YtgkicbaomcmfoaaGreatDoorPolys2
import Derived.Test.YtgkicbaomcmfoaaGreatDoorFxVK
import Derived.Shelf.SlSortCmp.PdqK
set_option linter.unusedVariables false
set_option linter.unusedSimpArgs false
set_option maxRecDepth 4000
namespace Go.Proofs.YtgkicbaomcmfoaaGreatDoor
open Go Go.Proofs Go.Fx Go.Shelf Go.RowKit Go.Sort
def pdqFn_ren : Go.Shelf.Ren := ⟨fun | 14 => 132 | 20 => 173 | 21 => 174 | 22 => 175 | 23 => 176 | 24 => 177 | 25 => 178 | 26 => 179 | 27 => 180 | 46 => 213 | 47 => 214 | 48 => 215 | 49 => 216 | 50 => 217 | 15 => 133 | 57 => 230 | 28 => 164 | 29 => 181 | n => n, fun | 24 => 82 | 22 => 24 | 3 => 3 | 25 => 92 | 4 => 4 | 0 => 0 | 46 => 232 | 45 => 231 | 50 => 119 | 66 => 264 | 39 => 124 | 55 => 45 | 70 => 268 | 76 => 281 | 77 => 282 | 53 => 54 | 5 => 5 | 9 => 9 | n => n, fun | n => n⟩
theorem pdqFn : Go.Proofs.SlLaysF0.n14 Tryz.prog pdqFn_ren := {
  mixed := by kernel_rfl
  f14 := ⟨Tryz.f132.name, by decide, Tryz.func132.trans (congrArg some (by kernel_rfl))⟩
  f15 := Tryz.func133.trans (congrArg some (by kernel_rfl))
  f20 := ⟨Tryz.f173.name, by decide, Tryz.func173.trans (congrArg some (by kernel_rfl))⟩
  f21 := ⟨Tryz.f174.name, by decide, Tryz.func174.trans (congrArg some (by kernel_rfl))⟩
  f22 := ⟨Tryz.f175.name, by decide, Tryz.func175.trans (congrArg some (by kernel_rfl))⟩
  f23 := ⟨Tryz.f176.name, by decide, Tryz.func176.trans (congrArg some (by kernel_rfl))⟩
  f24 := ⟨Tryz.f177.name, by decide, Tryz.func177.trans (congrArg some (by kernel_rfl))⟩
  f25 := ⟨Tryz.f178.name, by decide, Tryz.func178.trans (congrArg some (by kernel_rfl))⟩
  f26 := ⟨Tryz.f179.name, by decide, Tryz.func179.trans (congrArg some (by kernel_rfl))⟩
  f27 := ⟨Tryz.f180.name, by decide, Tryz.func180.trans (congrArg some (by kernel_rfl))⟩
  f28 := Tryz.func164.trans (congrArg some (by kernel_rfl))
  f29 := Tryz.func181.trans (congrArg some (by kernel_rfl))
  f46 := ⟨Tryz.f213.name, by decide, Tryz.func213.trans (congrArg some (by kernel_rfl))⟩
  f47 := Tryz.func214.trans (congrArg some (by kernel_rfl))
  f48 := Tryz.func215.trans (congrArg some (by kernel_rfl))
  f49 := ⟨Tryz.f216.name, by decide, Tryz.func216.trans (congrArg some (by kernel_rfl))⟩
  f50 := ⟨Tryz.f217.name, by decide, Tryz.func217.trans (congrArg some (by kernel_rfl))⟩
  f57 := ⟨Tryz.f230.name, by decide, Tryz.func230.trans (congrArg some (by kernel_rfl))⟩
  t0 := Tryz.underlying0
  a0 := Tryz.isAgg0
  z0 := Tryz.sizeOf0
  v0 := Tryz.zeroValue0
  t3 := Tryz.underlying3
  a3 := Tryz.isAgg3
  z3 := Tryz.sizeOf3
  v3 := Tryz.zeroValue3
  t4 := Tryz.underlying4
  a4 := Tryz.isAgg4
  z4 := Tryz.sizeOf4
  v4 := Tryz.zeroValue4
  t5 := Tryz.underlying5
  a5 := Tryz.isAgg5
  z5 := Tryz.sizeOf5
  v5 := Tryz.zeroValue5
  t9 := Tryz.underlying9
  a9 := Tryz.isAgg9
  z9 := Tryz.sizeOf9
  v9 := Tryz.zeroValue9
  t22 := Tryz.underlying24
  a22 := Tryz.isAgg24
  z22 := Tryz.sizeOf24
  v22 := Tryz.zeroValue24
  t25 := Tryz.underlying92
  a25 := Tryz.isAgg92
  z25 := Tryz.sizeOf92
  v25 := Tryz.zeroValue92
  t39 := Tryz.underlying124
  a39 := Tryz.isAgg124
  z39 := Tryz.sizeOf124
  v39 := Tryz.zeroValue124
  t45 := Tryz.underlying231
  a45 := Tryz.isAgg231
  z45 := Tryz.sizeOf231
  v45 := Tryz.zeroValue231
  t46 := Tryz.underlying232
  a46 := Tryz.isAgg232
  z46 := Tryz.sizeOf232
  v46 := Tryz.zeroValue232
  t50 := Tryz.underlying119
  a50 := Tryz.isAgg119
  z50 := Tryz.sizeOf119
  v50 := Tryz.zeroValue119
  t53 := Tryz.underlying54
  a53 := Tryz.isAgg54
  z53 := Tryz.sizeOf54
  v53 := Tryz.zeroValue54
  t55 := Tryz.underlying45
  a55 := Tryz.isAgg45
  z55 := Tryz.sizeOf45
  v55 := Tryz.zeroValue45
  t66 := Tryz.underlying264
  a66 := Tryz.isAgg264
  z66 := Tryz.sizeOf264
  v66 := Tryz.zeroValue264
  t70 := Tryz.underlying268
  a70 := Tryz.isAgg268
  z70 := Tryz.sizeOf268
  v70 := Tryz.zeroValue268
  t76 := Tryz.underlying281
  a76 := Tryz.isAgg281
  z76 := Tryz.sizeOf281
  v76 := Tryz.zeroValue281
  t77 := Tryz.underlying282
  a77 := Tryz.isAgg282
  z77 := Tryz.sizeOf282
  v77 := Tryz.zeroValue282 }
def lenFn_ren : Go.Shelf.Ren := ⟨fun | 15 => 133 | 28 => 164 | 29 => 181 | n => n, fun | 39 => 124 | 3 => 3 | 53 => 54 | 55 => 45 | 4 => 4 | 5 => 5 | 9 => 9 | n => n, fun | n => n⟩
theorem lenFn : Go.Proofs.SlLaysF0.n15 Tryz.prog lenFn_ren := {
  mixed := by kernel_rfl
  f15 := Tryz.func133.trans (congrArg some (by kernel_rfl))
  f28 := Tryz.func164.trans (congrArg some (by kernel_rfl))
  f29 := Tryz.func181.trans (congrArg some (by kernel_rfl))
  t3 := Tryz.underlying3
  a3 := Tryz.isAgg3
  z3 := Tryz.sizeOf3
  v3 := Tryz.zeroValue3
  t4 := Tryz.underlying4
  a4 := Tryz.isAgg4
  z4 := Tryz.sizeOf4
  v4 := Tryz.zeroValue4
  t5 := Tryz.underlying5
  a5 := Tryz.isAgg5
  z5 := Tryz.sizeOf5
  v5 := Tryz.zeroValue5
  t9 := Tryz.underlying9
  a9 := Tryz.isAgg9
  z9 := Tryz.sizeOf9
  v9 := Tryz.zeroValue9
  t39 := Tryz.underlying124
  a39 := Tryz.isAgg124
  z39 := Tryz.sizeOf124
  v39 := Tryz.zeroValue124
  t53 := Tryz.underlying54
  a53 := Tryz.isAgg54
  z53 := Tryz.sizeOf54
  v53 := Tryz.zeroValue54
  t55 := Tryz.underlying45
  a55 := Tryz.isAgg45
  z55 := Tryz.sizeOf45
  v55 := Tryz.zeroValue45 }
theorem C_bitsLen (n : Nat) (hn : n < 18446744073709551616) : CtrV Tryz.prog 133 [.int .u64 ((n : Nat) : Int)] (.int .i64 ((Lib.bitLen n : Nat) : Int)) := by
  intro X w _ _
  refine (Any.bits_Len (SlLaysF0.n15.bits lenFn) (n : Int) w (by omega) (by omega)).mono ?_
  rintro e w' ⟨he, hw⟩
  rw [Int.toNat_natCast] at he
  subst hw
  exact ⟨_, [], he, ⟨rfl, rfl⟩, Below.refl _ _, by simp⟩
theorem swo_terms (p : List Tm) (m : Nat) : SWO (ltOf (fun x y : Fin (m + 1) => ordT (p.getD x.val T0) (p.getD y.val T0))) := by
  have h : ∀ x y : Fin (m + 1), (ltOf (fun x y : Fin (m + 1) => ordT (p.getD x.val T0) (p.getD y.val T0))) x y = ltT (p.getD x.val T0) (p.getD y.val T0) := fun x y => by
    have := ordT_lt (p.getD x.val T0) (p.getD y.val T0)
    rw [Bool.eq_iff_iff, ← this]; simp [ltOf]
  refine ⟨fun x => ?_, fun x y z => ?_, fun x y z => ?_⟩
  · rw [h]; exact ltT_irrefl _
  · rw [h, h, h]; exact ltT_trans
  · rw [h, h, h]; exact ltT_ntrans
theorem terms_total {p : List Tm} (hd : dif p) {m : Nat} (hm : p.length = m + 1) : ∀ x y : Fin (m + 1), (ltOf (fun x y : Fin (m + 1) => ordT (p.getD x.val T0) (p.getD y.val T0))) x y = false →
    (ltOf (fun x y : Fin (m + 1) => ordT (p.getD x.val T0) (p.getD y.val T0))) y x = false → x = y := by
  intro x y h1 h2
  have h : ∀ s t : Tm, decide (ordT s t < 0) = ltT s t := fun s t => by
    have := ordT_lt s t
    rw [Bool.eq_iff_iff, ← this]; simp
  have h3 := ltT_total ((h _ _).symm.trans h1) ((h _ _).symm.trans h2)
  apply Fin.ext
  rcases Nat.lt_trichotomy x.val y.val with h4 | h4 | h4
  · have := List.pairwise_iff_getElem.1 hd x.val y.val (by omega) (by omega) h4
    simp only [List.getD, List.getElem?_eq_getElem (show x.val < p.length by omega), List.getElem?_eq_getElem (show y.val < p.length by omega), Option.getD_some] at h3
    exact absurd h3 this
  · exact h4
  · have := List.pairwise_iff_getElem.1 hd y.val x.val (by omega) (by omega) h4
    simp only [List.getD, List.getElem?_eq_getElem (show x.val < p.length by omega), List.getElem?_eq_getElem (show y.val < p.length by omega), Option.getD_some] at h3
    exact absurd ⟨h3.1.symm, h3.2.symm⟩ this
theorem ctrV_W {P : Program} {f : FuncId} {args : List Value} {v : Value} (h : CtrV P f args v) (Φ : List SPred) : CtrW P f args Φ v := fun X w h1 _ => h X w h1 (fun _ hR => nomatch hR)
theorem C_pdqT (b cap : Nat) (p : List Tm) (R : List Value) (limit : Nat) (hlim : limit < 4611686018427387904) (hd : dif p) (hp : ∀ t ∈ p, t.i + t.j ≤ 12) (hn : p.length ≤ 1000000) (σ : List (Nat × Obj)) (Φ : List SPred) :
    CtrM Tryz.prog 132 [.slice (some ⟨b, 0, none⟩) p.length cap, .int .i64 ((0 : Nat) : Int), .int .i64 ((p.length : Nat) : Int), .int .i64 ((limit : Nat) : Int), .func (.func 48) #[] #[]]
      ((b, .cells (cellsOf encT p ++ R).toArray 82 (0, 0)) :: σ) Φ
      (fun v σ' Ψ => v = .tuple #[] ∧ σ' = (b, .cells (cellsOf encT (p.mergeSort fun s t => !ltT t s) ++ R).toArray 82 (0, 0)) :: σ ∧ Ψ = Φ) := by
  rcases Nat.eq_zero_or_pos p.length with h0 | h0
  · have hp0 : p = [] := List.eq_nil_of_length_eq_zero h0
    subst hp0
    intro S w0 w hS hm
    refine (AnyF.pdqsortCmpFunc_none pdqFn (some ⟨b, 0, none⟩) cap (limit : Int) (.func (.func 48) #[] #[]) w).mono ?_
    rintro e w' ⟨he, hw⟩
    subst hw
    exact ⟨_, _, _, he, ⟨rfl, by rw [List.mergeSort_nil], rfl⟩, hm⟩
  · obtain ⟨m, hm⟩ : ∃ m, p.length = m + 1 := ⟨p.length - 1, by omega⟩
    have hg : ∀ k : Fin (m + 1), (p.getD k.val T0) ∈ p := fun k => getD_mem p (by omega)
    have hmap : ((List.range p.length).map (Fin.ofNat (m + 1))).map (fun k : Fin (m + 1) => p.getD k.val T0) = p := by
      apply List.ext_getElem?
      intro j
      rw [List.map_map]
      by_cases hj : j < p.length
      · rw [List.getElem?_map, List.getElem?_range hj, Option.map_some, List.getElem?_eq_getElem hj]
        simp only [Function.comp, Fin.ofNat]
        rw [Nat.mod_eq_of_lt (by omega)]
        simp [List.getD, hj]
      · rw [List.getElem?_eq_none (by simp; omega), List.getElem?_eq_none (by omega)]
    have hflat : ∀ l : List (Fin (m + 1)), l.flatMap (fun k => (encT (p.getD k.val T0)).cells.toList) = cellsOf encT (l.map (fun k : Fin (m + 1) => p.getD k.val T0)) := fun l => by
      unfold cellsOf; rw [List.flatMap_map]
    have hl : ((List.range p.length).map (Fin.ofNat (m + 1))).length = p.length := by simp
    have h := ctr_pdqK (P := Tryz.prog) (α := Fin (m + 1)) (k := 7) (enc := fun k => (encT (p.getD k.val T0)).cells.toList) (σ := σ) (Φ := Φ) pdqFn Tryz.isAgg82 Tryz.sizeOf82 (fun _ => rfl) (by decide)
      (fun x v hv => by
        simp only [Value.cells, List.mem_cons, List.not_mem_nil, or_false] at hv
        rcases hv with rfl | rfl | rfl | rfl | rfl | rfl | rfl <;> rfl)
      (fun x y => ordT (p.getD x.val T0) (p.getD y.val T0)) (swo_terms p m) (terms_total hd hm) (g := 48) (cb := #[]) Tryz.call48
      (fun x y => ctrV_W (C_porder (p.getD x.val T0) (p.getD y.val T0) (by have := hp _ (hg x); omega) (by have := hp _ (hg y); omega)) Φ) b cap 82 ((List.range p.length).map (Fin.ofNat (m + 1))) R limit hlim (by omega)
    rw [hflat, hmap, hl] at h
    have e3 := List.map_mergeSort (r := fun x y : Fin (m + 1) => !(ltOf fun x y : Fin (m + 1) => ordT (p.getD x.val T0) (p.getD y.val T0)) y x) (s := fun s t => !ltT t s) (f := fun k : Fin (m + 1) => p.getD k.val T0) (l := (List.range p.length).map (Fin.ofNat (m + 1)))
      (fun x _ y _ => by
        have := ordT_lt (p.getD y.val T0) (p.getD x.val T0)
        congr 1
        rw [Bool.eq_iff_iff, ← this]; simp [ltOf])
    rw [hmap] at e3
    simp only [hflat] at h
    rw [e3] at h
    exact h
theorem C_pdq0 (ad : Option Addr) (cap limit : Nat) (fv : Value) : CtrV Tryz.prog 132 [.slice ad 0 cap, .int .i64 ((0 : Nat) : Int), .int .i64 ((0 : Nat) : Int), .int .i64 ((limit : Nat) : Int), fv] (.tuple #[]) := by
  intro X w _ _
  refine (AnyF.pdqsortCmpFunc_none pdqFn ad cap (limit : Int) fv w).mono ?_
  rintro e w' ⟨he, hw⟩
  subst hw
  exact ⟨_, [], he, ⟨rfl, rfl⟩, Below.refl _ _, by simp⟩
end Go.Proofs.YtgkicbaomcmfoaaGreatDoor
