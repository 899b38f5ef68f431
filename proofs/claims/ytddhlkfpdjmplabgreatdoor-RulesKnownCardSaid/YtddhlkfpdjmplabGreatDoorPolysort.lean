/- Walks of functions. By an AI agent. -/
import Derived.Test.YtddhlkfpdjmplabGreatDoorPolys2
import Derived.Test.YtddhlkfpdjmplabGreatDoorFxVK
import Derived.Shelf.SlSortCmp.PdqK
set_option linter.unusedVariables false
set_option linter.unusedSimpArgs false
set_option maxRecDepth 4000
namespace Go.Proofs.YtddhlkfpdjmplabGreatDoor
open Go Go.Proofs Go.Fx Go.Shelf Go.RowKit Go.Sort Tryz
def Zwe : Go.Shelf.Ren := ⟨fun | 14 => 153 | 20 => 173 | 21 => 174 | 22 => 175 | 23 => 176 | 24 => 177 | 25 => 178 | 26 => 179 | 27 => 180 | 46 => 198 | 47 => 199 | 48 => 200 | 49 => 201 | 50 => 202 | 15 => 154 | 57 => 210 | 28 => 181 | 29 => 182 | n => n, fun | 24 => 150 | 22 => 79 | 3 => 3 | 25 => 186 | 4 => 4 | 0 => 0 | 46 => 245 | 45 => 244 | 50 => 180 | 66 => 263 | 39 => 103 | 55 => 56 | 70 => 267 | 76 => 276 | 77 => 277 | 53 => 22 | 5 => 5 | 9 => 9 | n => n, fun | n => n⟩
theorem Qeb : Go.Proofs.SlLaysF0.n14 Tryz.prog Zwe := {
 mixed := by kernel_rfl
 f14 := ⟨Tryz.f153.name, by decide, func153.trans (congrArg some kk)⟩
 f15 := func154.trans (congrArg some kk)
 f20 := ⟨Tryz.f173.name, by decide, func173.trans (congrArg some kk)⟩
 f21 := ⟨Tryz.f174.name, by decide, func174.trans (congrArg some kk)⟩
 f22 := ⟨Tryz.f175.name, by decide, func175.trans (congrArg some kk)⟩
 f23 := ⟨Tryz.f176.name, by decide, func176.trans (congrArg some kk)⟩
 f24 := ⟨Tryz.f177.name, by decide, func177.trans (congrArg some kk)⟩
 f25 := ⟨Tryz.f178.name, by decide, func178.trans (congrArg some kk)⟩
 f26 := ⟨Tryz.f179.name, by decide, func179.trans (congrArg some kk)⟩
 f27 := ⟨Tryz.f180.name, by decide, func180.trans (congrArg some kk)⟩
 f28 := func181.trans (congrArg some kk)
 f29 := func182.trans (congrArg some kk)
 f46 := ⟨Tryz.f198.name, by decide, func198.trans (congrArg some kk)⟩
 f47 := func199.trans (congrArg some kk)
 f48 := func200.trans (congrArg some kk)
 f49 := ⟨Tryz.f201.name, by decide, func201.trans (congrArg some kk)⟩
 f50 := ⟨Tryz.f202.name, by decide, func202.trans (congrArg some kk)⟩
 f57 := ⟨Tryz.f210.name, by decide, func210.trans (congrArg some kk)⟩
 t0 := underlying0
 a0 := isAgg0
 z0 := sizeOf0
 v0 := zeroValue0
 t3 := underlying3
 a3 := isAgg3
 z3 := sizeOf3
 v3 := zeroValue3
 t4 := underlying4
 a4 := isAgg4
 z4 := sizeOf4
 v4 := zeroValue4
 t5 := underlying5
 a5 := isAgg5
 z5 := sizeOf5
 v5 := zeroValue5
 t9 := underlying9
 a9 := isAgg9
 z9 := sizeOf9
 v9 := zeroValue9
 t22 := underlying79
 a22 := isAgg79
 z22 := sizeOf79
 v22 := zeroValue79
 t25 := underlying186
 a25 := isAgg186
 z25 := sizeOf186
 v25 := zeroValue186
 t39 := underlying103
 a39 := isAgg103
 z39 := sizeOf103
 v39 := zeroValue103
 t45 := underlying244
 a45 := isAgg244
 z45 := sizeOf244
 v45 := zeroValue244
 t46 := underlying245
 a46 := isAgg245
 z46 := sizeOf245
 v46 := zeroValue245
 t50 := underlying180
 a50 := isAgg180
 z50 := sizeOf180
 v50 := zeroValue180
 t53 := underlying22
 a53 := isAgg22
 z53 := sizeOf22
 v53 := zeroValue22
 t55 := underlying56
 a55 := isAgg56
 z55 := sizeOf56
 v55 := zeroValue56
 t66 := underlying263
 a66 := isAgg263
 z66 := sizeOf263
 v66 := zeroValue263
 t70 := underlying267
 a70 := isAgg267
 z70 := sizeOf267
 v70 := zeroValue267
 t76 := underlying276
 a76 := isAgg276
 z76 := sizeOf276
 v76 := zeroValue276
 t77 := underlying277
 a77 := isAgg277
 z77 := sizeOf277
 v77 := zeroValue277 }
def Zxh : Go.Shelf.Ren := ⟨fun | 15 => 154 | 28 => 181 | 29 => 182 | n => n, fun | 39 => 103 | 3 => 3 | 53 => 22 | 55 => 56 | 4 => 4 | 5 => 5 | 9 => 9 | n => n, fun | n => n⟩
theorem lenFn : Go.Proofs.SlLaysF0.n15 Tryz.prog Zxh := {
 mixed := by kernel_rfl
 f15 := func154.trans (congrArg some kk)
 f28 := func181.trans (congrArg some kk)
 f29 := func182.trans (congrArg some kk)
 t3 := underlying3
 a3 := isAgg3
 z3 := sizeOf3
 v3 := zeroValue3
 t4 := underlying4
 a4 := isAgg4
 z4 := sizeOf4
 v4 := zeroValue4
 t5 := underlying5
 a5 := isAgg5
 z5 := sizeOf5
 v5 := zeroValue5
 t9 := underlying9
 a9 := isAgg9
 z9 := sizeOf9
 v9 := zeroValue9
 t39 := underlying103
 a39 := isAgg103
 z39 := sizeOf103
 v39 := zeroValue103
 t53 := underlying22
 a53 := isAgg22
 z53 := sizeOf22
 v53 := zeroValue22
 t55 := underlying56
 a55 := isAgg56
 z55 := sizeOf56
 v55 := zeroValue56 }
theorem Zph (n : Nat) (hn : n < 18446744073709551616) : Yc Tryz.prog 154 [.int .u64 ((n : Nat) : Int)] (.int .i64 ((Lib.bitLen n : Nat) : Int)) := by
 intro X w _ _
 refine (Any.bits_Len (SlLaysF0.n15.bits lenFn) (n : Int) w oo oo).mono ?_
 rintro e w' ⟨he, hw⟩
 rw [Int.toNat_natCast] at he
 subst hw
 exact ⟨_, [], he, ⟨rfl, rfl⟩, Below.refl _ _, by simp⟩
theorem Zvo (p : List Tm) (m : Nat) : SWO (ltOf (fun x y : Fin (m + 1) => Zz0 (p.getD x.val T0) (p.getD y.val T0))) := by
 have h : ∀ x y : Fin (m + 1), (ltOf (fun x y : Fin (m + 1) => Zz0 (p.getD x.val T0) (p.getD y.val T0))) x y = ltT (p.getD x.val T0) (p.getD y.val T0) := fun x y => by
  have := Zqb (p.getD x.val T0) (p.getD y.val T0)
  rw [Bool.eq_iff_iff, ← this]; simp [ltOf]
 refine ⟨fun x => ?_, fun x y z => ?_, fun x y z => ?_⟩
 · rw [h]; exact Zkt _
 · rw [h, h, h]; exact Zi0
 · rw [h, h, h]; exact Zks
theorem Zp1 {p : List Tm} (hd : dif p) {m : Nat} (hm : p.length = m + 1) : ∀ x y : Fin (m + 1), (ltOf (fun x y : Fin (m + 1) => Zz0 (p.getD x.val T0) (p.getD y.val T0))) x y = false →
  (ltOf (fun x y : Fin (m + 1) => Zz0 (p.getD x.val T0) (p.getD y.val T0))) y x = false → x = y := by
 intro x y h1 h2
 have h : ∀ s t : Tm, decide (Zz0 s t < 0) = ltT s t := fun s t => by
  have := Zqb s t
  rw [Bool.eq_iff_iff, ← this]; simp
 have h3 := Zi1 ((h _ _).symm.trans h1) ((h _ _).symm.trans h2)
 apply Fin.ext
 rcases Nat.lt_trichotomy x.val y.val with h4 | h4 | h4
 ·
  have := List.pairwise_iff_getElem.1 hd x.val y.val oo oo h4
  simp only [List.getD, List.getElem?_eq_getElem (show x.val < p.length by omega), List.getElem?_eq_getElem (show y.val < p.length by omega), Option.getD_some] at h3
  exact absurd h3 this
 · exact h4
 ·
  have := List.pairwise_iff_getElem.1 hd y.val x.val oo oo h4
  simp only [List.getD, List.getElem?_eq_getElem (show x.val < p.length by omega), List.getElem?_eq_getElem (show y.val < p.length by omega), Option.getD_some] at h3
  exact absurd ⟨h3.1.symm, h3.2.symm⟩ this
theorem Zyd {P : Program} {f : FuncId} {args : List Value} {v : Value} (h : Yc P f args v) (Φ : List Qn) : Ge P f args Φ v := fun X w h1 _ => h X w h1 (fun _ hR => nomatch hR)
theorem C_pdqT (b cap : Nat) (p : List Tm) (R : List Value) (limit : Nat) (hlim : limit < 4611686018427387904) (hd : dif p) (hp : ∀ t ∈ p, t.i + t.j ≤ 12) (hn : p.length ≤ 1000000) (σ : List (Nat × Obj)) (Φ : List Qn) :
  Zm4 Tryz.prog 153 [.slice (some ⟨b, 0, none⟩) p.length cap, .int .i64 ((0 : Nat) : Int), .int .i64 ((p.length : Nat) : Int), .int .i64 ((limit : Nat) : Int), .func (.func 119) #[] #[]]
   ((b, .cells (cellsOf Jb p ++ R).toArray 150 (0, 0)) :: σ) Φ
   (fun v σ' Ψ => v = .tuple #[] ∧ σ' = (b, .cells (cellsOf Jb (p.mergeSort fun s t => !ltT t s) ++ R).toArray 150 (0, 0)) :: σ ∧ Ψ = Φ) := by
 rcases Nat.eq_zero_or_pos p.length with h0 | h0
 ·
  have hp0 : p = [] := List.eq_nil_of_length_eq_zero h0
  subst hp0
  intro S w0 w hS hm
  refine (AnyF.pdqsortCmpFunc_none Qeb (some ⟨b, 0, none⟩) cap (limit : Int) (.func (.func 119) #[] #[]) w).mono ?_
  rintro e w' ⟨he, hw⟩
  subst hw
  exact ⟨_, _, _, he, ⟨rfl, by rw [List.mergeSort_nil], rfl⟩, hm⟩
 ·
  obtain ⟨m, hm⟩ : ∃ m, p.length = m + 1 := ⟨p.length - 1, oo⟩
  have hg : ∀ k : Fin (m + 1), (p.getD k.val T0) ∈ p := fun k => getD_mem p oo
  have hmap : ((List.range p.length).map (Fin.ofNat (m + 1))).map (fun k : Fin (m + 1) => p.getD k.val T0) = p := by
   apply List.ext_getElem?
   intro j
   rw [List.map_map]
   by_cases hj : j < p.length
   ·
    rw [List.getElem?_map, List.getElem?_range hj, Option.map_some, List.getElem?_eq_getElem hj]
    simp only [Function.comp, Fin.ofNat]
    rw [Nat.mod_eq_of_lt oo]
    simp [List.getD, hj]
   · rw [List.getElem?_eq_none (by simp; omega), List.getElem?_eq_none oo]
  have hflat : ∀ l : List (Fin (m + 1)), l.flatMap (fun k => (Jb (p.getD k.val T0)).cells.toList) = cellsOf Jb (l.map (fun k : Fin (m + 1) => p.getD k.val T0)) := fun l => by
   unfold cellsOf; rw [List.flatMap_map]
  have hl : ((List.range p.length).map (Fin.ofNat (m + 1))).length = p.length := by simp
  have h := Ztd (P := Tryz.prog) (α := Fin (m + 1)) (k := 7) (enc := fun k => (Jb (p.getD k.val T0)).cells.toList) (σ := σ) (Φ := Φ) Qeb isAgg150 sizeOf150 (fun _ => rfl) dd
   (fun x v hv => by
    simp only [Value.cells, List.mem_cons, List.not_mem_nil, or_false] at hv
    rcases hv with rfl | rfl | rfl | rfl | rfl | rfl | rfl <;> rfl)
   (fun x y => Zz0 (p.getD x.val T0) (p.getD y.val T0)) (Zvo p m) (Zp1 hd hm) (g := 119) (cb := #[]) call119
   (fun x y => Zyd (Qb4 (p.getD x.val T0) (p.getD y.val T0) (by have := hp _ (hg x); omega) (by have := hp _ (hg y); omega)) Φ) b cap 150 ((List.range p.length).map (Fin.ofNat (m + 1))) R limit hlim oo
  rw [hflat, hmap, hl] at h
  have e3 := List.map_mergeSort (r := fun x y : Fin (m + 1) => !(ltOf fun x y : Fin (m + 1) => Zz0 (p.getD x.val T0) (p.getD y.val T0)) y x) (s := fun s t => !ltT t s) (f := fun k : Fin (m + 1) => p.getD k.val T0) (l := (List.range p.length).map (Fin.ofNat (m + 1)))
   (fun x _ y _ => by
    have := Zqb (p.getD y.val T0) (p.getD x.val T0)
    congr 1
    rw [Bool.eq_iff_iff, ← this]; simp [ltOf])
  rw [hmap] at e3
  simp only [hflat] at h
  rw [e3] at h
  exact h
theorem C_pdq0 (ad : Option Addr) (cap limit : Nat) (fv : Value) : Yc Tryz.prog 153 [.slice ad 0 cap, .int .i64 ((0 : Nat) : Int), .int .i64 ((0 : Nat) : Int), .int .i64 ((limit : Nat) : Int), fv] (.tuple #[]) := by
 intro X w _ _
 refine (AnyF.pdqsortCmpFunc_none Qeb ad cap (limit : Int) fv w).mono ?_
 rintro e w' ⟨he, hw⟩
 subst hw
 exact ⟨_, [], he, ⟨rfl, rfl⟩, Below.refl _ _, by simp⟩
end Go.Proofs.YtddhlkfpdjmplabGreatDoor
