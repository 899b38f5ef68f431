/- Walks of functions. By an AI agent. -/
import Derived.Test.YtgkicbaomcmfoaaGreatDoorPolys2
import Derived.Test.YtgkicbaomcmfoaaGreatDoorFxVK
import Derived.Shelf.SlSortCmp.PdqK
set_option linter.unusedVariables false
set_option linter.unusedSimpArgs false
set_option maxRecDepth 4000
namespace Go.Proofs.YtgkicbaomcmfoaaGreatDoor
open Go Go.Proofs Go.Fx Go.Shelf Go.RowKit Go.Sort Tryz
def Zvv : Go.Shelf.Ren := ⟨fun | 14 => 132 | 20 => 173 | 21 => 174 | 22 => 175 | 23 => 176 | 24 => 177 | 25 => 178 | 26 => 179 | 27 => 180 | 46 => 213 | 47 => 214 | 48 => 215 | 49 => 216 | 50 => 217 | 15 => 133 | 57 => 230 | 28 => 164 | 29 => 181 | n => n, fun | 24 => 82 | 22 => 24 | 3 => 3 | 25 => 92 | 4 => 4 | 0 => 0 | 46 => 232 | 45 => 231 | 50 => 119 | 66 => 264 | 39 => 124 | 55 => 45 | 70 => 268 | 76 => 281 | 77 => 282 | 53 => 54 | 5 => 5 | 9 => 9 | n => n, fun | n => n⟩
theorem Qd4 : Go.Proofs.SlLaysF0.n14 Tryz.prog Zvv := {
 mixed := by kernel_rfl
 f14 := ⟨Tryz.f132.name, by decide, func132.trans (congrArg some kk)⟩
 f15 := func133.trans (congrArg some kk)
 f20 := ⟨Tryz.f173.name, by decide, func173.trans (congrArg some kk)⟩
 f21 := ⟨Tryz.f174.name, by decide, func174.trans (congrArg some kk)⟩
 f22 := ⟨Tryz.f175.name, by decide, func175.trans (congrArg some kk)⟩
 f23 := ⟨Tryz.f176.name, by decide, func176.trans (congrArg some kk)⟩
 f24 := ⟨Tryz.f177.name, by decide, func177.trans (congrArg some kk)⟩
 f25 := ⟨Tryz.f178.name, by decide, func178.trans (congrArg some kk)⟩
 f26 := ⟨Tryz.f179.name, by decide, func179.trans (congrArg some kk)⟩
 f27 := ⟨Tryz.f180.name, by decide, func180.trans (congrArg some kk)⟩
 f28 := func164.trans (congrArg some kk)
 f29 := func181.trans (congrArg some kk)
 f46 := ⟨Tryz.f213.name, by decide, func213.trans (congrArg some kk)⟩
 f47 := func214.trans (congrArg some kk)
 f48 := func215.trans (congrArg some kk)
 f49 := ⟨Tryz.f216.name, by decide, func216.trans (congrArg some kk)⟩
 f50 := ⟨Tryz.f217.name, by decide, func217.trans (congrArg some kk)⟩
 f57 := ⟨Tryz.f230.name, by decide, func230.trans (congrArg some kk)⟩
 t0 := underlying0
 a0 := isAgg0
 z0 := sizeOf0
 v0 := zeroValue0
 t3 := underlying3
 a3 := isAgg3
 z3 := sizeOf3
 v3 := zeroValue3
 t4 := underlying4
 a4 := isAgg4
 z4 := sizeOf4
 v4 := zeroValue4
 t5 := underlying5
 a5 := isAgg5
 z5 := sizeOf5
 v5 := zeroValue5
 t9 := underlying9
 a9 := isAgg9
 z9 := sizeOf9
 v9 := zeroValue9
 t22 := underlying24
 a22 := isAgg24
 z22 := sizeOf24
 v22 := zeroValue24
 t25 := underlying92
 a25 := isAgg92
 z25 := sizeOf92
 v25 := zeroValue92
 t39 := underlying124
 a39 := isAgg124
 z39 := sizeOf124
 v39 := zeroValue124
 t45 := underlying231
 a45 := isAgg231
 z45 := sizeOf231
 v45 := zeroValue231
 t46 := underlying232
 a46 := isAgg232
 z46 := sizeOf232
 v46 := zeroValue232
 t50 := underlying119
 a50 := isAgg119
 z50 := sizeOf119
 v50 := zeroValue119
 t53 := underlying54
 a53 := isAgg54
 z53 := sizeOf54
 v53 := zeroValue54
 t55 := underlying45
 a55 := isAgg45
 z55 := sizeOf45
 v55 := zeroValue45
 t66 := underlying264
 a66 := isAgg264
 z66 := sizeOf264
 v66 := zeroValue264
 t70 := underlying268
 a70 := isAgg268
 z70 := sizeOf268
 v70 := zeroValue268
 t76 := underlying281
 a76 := isAgg281
 z76 := sizeOf281
 v76 := zeroValue281
 t77 := underlying282
 a77 := isAgg282
 z77 := sizeOf282
 v77 := zeroValue282 }
def Zwk : Go.Shelf.Ren := ⟨fun | 15 => 133 | 28 => 164 | 29 => 181 | n => n, fun | 39 => 124 | 3 => 3 | 53 => 54 | 55 => 45 | 4 => 4 | 5 => 5 | 9 => 9 | n => n, fun | n => n⟩
theorem lenFn : Go.Proofs.SlLaysF0.n15 Tryz.prog Zwk := {
 mixed := by kernel_rfl
 f15 := func133.trans (congrArg some kk)
 f28 := func164.trans (congrArg some kk)
 f29 := func181.trans (congrArg some kk)
 t3 := underlying3
 a3 := isAgg3
 z3 := sizeOf3
 v3 := zeroValue3
 t4 := underlying4
 a4 := isAgg4
 z4 := sizeOf4
 v4 := zeroValue4
 t5 := underlying5
 a5 := isAgg5
 z5 := sizeOf5
 v5 := zeroValue5
 t9 := underlying9
 a9 := isAgg9
 z9 := sizeOf9
 v9 := zeroValue9
 t39 := underlying124
 a39 := isAgg124
 z39 := sizeOf124
 v39 := zeroValue124
 t53 := underlying54
 a53 := isAgg54
 z53 := sizeOf54
 v53 := zeroValue54
 t55 := underlying45
 a55 := isAgg45
 z55 := sizeOf45
 v55 := zeroValue45 }
theorem Zn6 (n : Nat) (hn : n < 18446744073709551616) : Xl Tryz.prog 133 [.int .u64 ((n : Nat) : Int)] (.int .i64 ((Lib.bitLen n : Nat) : Int)) := by
 intro X w _ _
 refine (Any.bits_Len (SlLaysF0.n15.bits lenFn) (n : Int) w oo oo).mono ?_
 rintro e w' ⟨he, hw⟩
 rw [Int.toNat_natCast] at he
 subst hw
 exact ⟨_, [], he, ⟨rfl, rfl⟩, Below.refl _ _, by simp⟩
theorem Zuw (p : List Tm) (m : Nat) : SWO (ltOf (fun x y : Fin (m + 1) => Zt4 (p.getD x.val T0) (p.getD y.val T0))) := by
 have h : ∀ x y : Fin (m + 1), (ltOf (fun x y : Fin (m + 1) => Zt4 (p.getD x.val T0) (p.getD y.val T0))) x y = ltT (p.getD x.val T0) (p.getD y.val T0) := fun x y => by
  have := Zkn (p.getD x.val T0) (p.getD y.val T0)
  rw [Bool.eq_iff_iff, ← this]; simp [ltOf]
 refine ⟨fun x => ?_, fun x y z => ?_, fun x y z => ?_⟩
 · rw [h]; exact Zfw _
 · rw [h, h, h]; exact Zeo
 · rw [h, h, h]; exact Zfv
theorem Zoi {p : List Tm} (hd : dif p) {m : Nat} (hm : p.length = m + 1) : ∀ x y : Fin (m + 1), (ltOf (fun x y : Fin (m + 1) => Zt4 (p.getD x.val T0) (p.getD y.val T0))) x y = false →
  (ltOf (fun x y : Fin (m + 1) => Zt4 (p.getD x.val T0) (p.getD y.val T0))) y x = false → x = y := by
 intro x y h1 h2
 have h : ∀ s t : Tm, decide (Zt4 s t < 0) = ltT s t := fun s t => by
  have := Zkn s t
  rw [Bool.eq_iff_iff, ← this]; simp
 have h3 := Zc0 ((h _ _).symm.trans h1) ((h _ _).symm.trans h2)
 apply Fin.ext
 rcases Nat.lt_trichotomy x.val y.val with h4 | h4 | h4
 ·
  have := List.pairwise_iff_getElem.1 hd x.val y.val oo oo h4
  simp only [List.getD, List.getElem?_eq_getElem (show x.val < p.length by omega), List.getElem?_eq_getElem (show y.val < p.length by omega), Option.getD_some] at h3
  exact absurd h3 this
 · exact h4
 ·
  have := List.pairwise_iff_getElem.1 hd y.val x.val oo oo h4
  simp only [List.getD, List.getElem?_eq_getElem (show x.val < p.length by omega), List.getElem?_eq_getElem (show y.val < p.length by omega), Option.getD_some] at h3
  exact absurd ⟨h3.1.symm, h3.2.symm⟩ this
theorem ctrV_W {P : Program} {f : FuncId} {args : List Value} {v : Value} (h : Xl P f args v) (Φ : List Zp) : Gn P f args Φ v := fun X w h1 _ => h X w h1 (fun _ hR => nomatch hR)
theorem C_pdqT (b cap : Nat) (p : List Tm) (R : List Value) (limit : Nat) (hlim : limit < 4611686018427387904) (hd : dif p) (hp : ∀ t ∈ p, t.i + t.j ≤ 12) (hn : p.length ≤ 1000000) (σ : List (Nat × Obj)) (Φ : List Zp) :
  Znv Tryz.prog 132 [.slice (some ⟨b, 0, none⟩) p.length cap, .int .i64 ((0 : Nat) : Int), .int .i64 ((p.length : Nat) : Int), .int .i64 ((limit : Nat) : Int), .func (.func 48) #[] #[]]
   ((b, .cells (cellsOf Qb p ++ R).toArray 82 (0, 0)) :: σ) Φ
   (fun v σ' Ψ => v = .tuple #[] ∧ σ' = (b, .cells (cellsOf Qb (p.mergeSort fun s t => !ltT t s) ++ R).toArray 82 (0, 0)) :: σ ∧ Ψ = Φ) := by
 rcases Nat.eq_zero_or_pos p.length with h0 | h0
 ·
  have hp0 : p = [] := List.eq_nil_of_length_eq_zero h0
  subst hp0
  intro S w0 w hS hm
  refine (AnyF.pdqsortCmpFunc_none Qd4 (some ⟨b, 0, none⟩) cap (limit : Int) (.func (.func 48) #[] #[]) w).mono ?_
  rintro e w' ⟨he, hw⟩
  subst hw
  exact ⟨_, _, _, he, ⟨rfl, by rw [List.mergeSort_nil], rfl⟩, hm⟩
 ·
  obtain ⟨m, hm⟩ : ∃ m, p.length = m + 1 := ⟨p.length - 1, oo⟩
  have hg : ∀ k : Fin (m + 1), (p.getD k.val T0) ∈ p := fun k => getD_mem p oo
  have hmap : ((List.range p.length).map (Fin.ofNat (m + 1))).map (fun k : Fin (m + 1) => p.getD k.val T0) = p := by
   apply List.ext_getElem?
   intro j
   rw [List.map_map]
   by_cases hj : j < p.length
   ·
    rw [List.getElem?_map, List.getElem?_range hj, Option.map_some, List.getElem?_eq_getElem hj]
    simp only [Function.comp, Fin.ofNat]
    rw [Nat.mod_eq_of_lt oo]
    simp [List.getD, hj]
   · rw [List.getElem?_eq_none (by simp; omega), List.getElem?_eq_none oo]
  have hflat : ∀ l : List (Fin (m + 1)), l.flatMap (fun k => (Qb (p.getD k.val T0)).cells.toList) = cellsOf Qb (l.map (fun k : Fin (m + 1) => p.getD k.val T0)) := fun l => by
   unfold cellsOf; rw [List.flatMap_map]
  have hl : ((List.range p.length).map (Fin.ofNat (m + 1))).length = p.length := by simp
  have h := Zr0 (P := Tryz.prog) (α := Fin (m + 1)) (k := 7) (enc := fun k => (Qb (p.getD k.val T0)).cells.toList) (σ := σ) (Φ := Φ) Qd4 isAgg82 sizeOf82 (fun _ => rfl) dd
   (fun x v hv => by
    simp only [Value.cells, List.mem_cons, List.not_mem_nil, or_false] at hv
    rcases hv with rfl | rfl | rfl | rfl | rfl | rfl | rfl <;> rfl)
   (fun x y => Zt4 (p.getD x.val T0) (p.getD y.val T0)) (Zuw p m) (Zoi hd hm) (g := 48) (cb := #[]) call48
   (fun x y => ctrV_W (Zsl (p.getD x.val T0) (p.getD y.val T0) (by have := hp _ (hg x); omega) (by have := hp _ (hg y); omega)) Φ) b cap 82 ((List.range p.length).map (Fin.ofNat (m + 1))) R limit hlim oo
  rw [hflat, hmap, hl] at h
  have e3 := List.map_mergeSort (r := fun x y : Fin (m + 1) => !(ltOf fun x y : Fin (m + 1) => Zt4 (p.getD x.val T0) (p.getD y.val T0)) y x) (s := fun s t => !ltT t s) (f := fun k : Fin (m + 1) => p.getD k.val T0) (l := (List.range p.length).map (Fin.ofNat (m + 1)))
   (fun x _ y _ => by
    have := Zkn (p.getD y.val T0) (p.getD x.val T0)
    congr 1
    rw [Bool.eq_iff_iff, ← this]; simp [ltOf])
  rw [hmap] at e3
  simp only [hflat] at h
  rw [e3] at h
  exact h
theorem C_pdq0 (ad : Option Addr) (cap limit : Nat) (fv : Value) : Xl Tryz.prog 132 [.slice ad 0 cap, .int .i64 ((0 : Nat) : Int), .int .i64 ((0 : Nat) : Int), .int .i64 ((limit : Nat) : Int), fv] (.tuple #[]) := by
 intro X w _ _
 refine (AnyF.pdqsortCmpFunc_none Qd4 ad cap (limit : Int) fv w).mono ?_
 rintro e w' ⟨he, hw⟩
 subst hw
 exact ⟨_, [], he, ⟨rfl, rfl⟩, Below.refl _ _, by simp⟩
end Go.Proofs.YtgkicbaomcmfoaaGreatDoor
