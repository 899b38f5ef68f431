/- Walks of functions. By an AI agent. -/
import Derived.Test.YtddhlkfpdjmplaaGreatDoorPolys2
import Derived.Test.YtddhlkfpdjmplaaGreatDoorFxVK
import Derived.Shelf.SlSortCmp.PdqK
set_option linter.unusedVariables false
set_option linter.unusedSimpArgs false
set_option maxRecDepth 4000
namespace Go.Proofs.YtddhlkfpdjmplaaGreatDoor
open Go Go.Proofs Go.Fx Go.Shelf Go.RowKit Go.Sort Tryz
def Zw0 : Go.Shelf.Ren := ⟨fun | 14 => 191 | 20 => 211 | 21 => 212 | 22 => 213 | 23 => 214 | 24 => 215 | 25 => 216 | 26 => 217 | 27 => 218 | 46 => 235 | 47 => 236 | 48 => 237 | 49 => 238 | 50 => 239 | 15 => 192 | 57 => 245 | 28 => 219 | 29 => 220 | n => n, fun | 24 => 117 | 22 => 46 | 3 => 3 | 25 => 138 | 4 => 4 | 0 => 0 | 46 => 258 | 45 => 257 | 50 => 185 | 66 => 278 | 39 => 101 | 55 => 36 | 70 => 282 | 76 => 288 | 77 => 289 | 53 => 23 | 5 => 5 | 9 => 9 | n => n, fun | n => n⟩
theorem Qf4 : Go.Proofs.SlLaysF0.n14 Tryz.prog Zw0 := {
 mixed := by kernel_rfl
 f14 := ⟨Tryz.f191.name, by decide, func191.trans (congrArg some kk)⟩
 f15 := func192.trans (congrArg some kk)
 f20 := ⟨Tryz.f211.name, by decide, func211.trans (congrArg some kk)⟩
 f21 := ⟨Tryz.f212.name, by decide, func212.trans (congrArg some kk)⟩
 f22 := ⟨Tryz.f213.name, by decide, func213.trans (congrArg some kk)⟩
 f23 := ⟨Tryz.f214.name, by decide, func214.trans (congrArg some kk)⟩
 f24 := ⟨Tryz.f215.name, by decide, func215.trans (congrArg some kk)⟩
 f25 := ⟨Tryz.f216.name, by decide, func216.trans (congrArg some kk)⟩
 f26 := ⟨Tryz.f217.name, by decide, func217.trans (congrArg some kk)⟩
 f27 := ⟨Tryz.f218.name, by decide, func218.trans (congrArg some kk)⟩
 f28 := func219.trans (congrArg some kk)
 f29 := func220.trans (congrArg some kk)
 f46 := ⟨Tryz.f235.name, by decide, func235.trans (congrArg some kk)⟩
 f47 := func236.trans (congrArg some kk)
 f48 := func237.trans (congrArg some kk)
 f49 := ⟨Tryz.f238.name, by decide, func238.trans (congrArg some kk)⟩
 f50 := ⟨Tryz.f239.name, by decide, func239.trans (congrArg some kk)⟩
 f57 := ⟨Tryz.f245.name, by decide, func245.trans (congrArg some kk)⟩
 t0 := underlying0
 a0 := isAgg0
 z0 := sizeOf0
 v0 := zeroValue0
 t3 := underlying3
 a3 := isAgg3
 z3 := sizeOf3
 v3 := zeroValue3
 t4 := underlying4
 a4 := isAgg4
 z4 := sizeOf4
 v4 := zeroValue4
 t5 := underlying5
 a5 := isAgg5
 z5 := sizeOf5
 v5 := zeroValue5
 t9 := underlying9
 a9 := isAgg9
 z9 := sizeOf9
 v9 := zeroValue9
 t22 := underlying46
 a22 := isAgg46
 z22 := sizeOf46
 v22 := zeroValue46
 t25 := underlying138
 a25 := isAgg138
 z25 := sizeOf138
 v25 := zeroValue138
 t39 := underlying101
 a39 := isAgg101
 z39 := sizeOf101
 v39 := zeroValue101
 t45 := underlying257
 a45 := isAgg257
 z45 := sizeOf257
 v45 := zeroValue257
 t46 := underlying258
 a46 := isAgg258
 z46 := sizeOf258
 v46 := zeroValue258
 t50 := underlying185
 a50 := isAgg185
 z50 := sizeOf185
 v50 := zeroValue185
 t53 := underlying23
 a53 := isAgg23
 z53 := sizeOf23
 v53 := zeroValue23
 t55 := underlying36
 a55 := isAgg36
 z55 := sizeOf36
 v55 := zeroValue36
 t66 := underlying278
 a66 := isAgg278
 z66 := sizeOf278
 v66 := zeroValue278
 t70 := underlying282
 a70 := isAgg282
 z70 := sizeOf282
 v70 := zeroValue282
 t76 := underlying288
 a76 := isAgg288
 z76 := sizeOf288
 v76 := zeroValue288
 t77 := underlying289
 a77 := isAgg289
 z77 := sizeOf289
 v77 := zeroValue289 }
def Zxy : Go.Shelf.Ren := ⟨fun | 15 => 192 | 28 => 219 | 29 => 220 | n => n, fun | 39 => 101 | 3 => 3 | 53 => 23 | 55 => 36 | 4 => 4 | 5 => 5 | 9 => 9 | n => n, fun | n => n⟩
theorem lenFn : Go.Proofs.SlLaysF0.n15 Tryz.prog Zxy := {
 mixed := by kernel_rfl
 f15 := func192.trans (congrArg some kk)
 f28 := func219.trans (congrArg some kk)
 f29 := func220.trans (congrArg some kk)
 t3 := underlying3
 a3 := isAgg3
 z3 := sizeOf3
 v3 := zeroValue3
 t4 := underlying4
 a4 := isAgg4
 z4 := sizeOf4
 v4 := zeroValue4
 t5 := underlying5
 a5 := isAgg5
 z5 := sizeOf5
 v5 := zeroValue5
 t9 := underlying9
 a9 := isAgg9
 z9 := sizeOf9
 v9 := zeroValue9
 t39 := underlying101
 a39 := isAgg101
 z39 := sizeOf101
 v39 := zeroValue101
 t53 := underlying23
 a53 := isAgg23
 z53 := sizeOf23
 v53 := zeroValue23
 t55 := underlying36
 a55 := isAgg36
 z55 := sizeOf36
 v55 := zeroValue36 }
theorem Zoh (n : Nat) (hn : n < 18446744073709551616) : Ys Tryz.prog 192 [.int .u64 ((n : Nat) : Int)] (.int .i64 ((Lib.bitLen n : Nat) : Int)) := by
 intro X w _ _
 refine (Any.bits_Len (SlLaysF0.n15.bits lenFn) (n : Int) w oo oo).mono ?_
 rintro e w' ⟨he, hw⟩
 rw [Int.toNat_natCast] at he
 subst hw
 exact ⟨_, [], he, ⟨rfl, rfl⟩, Below.refl _ _, by simp⟩
theorem Zvz (p : List Tm) (m : Nat) : SWO (ltOf (fun x y : Fin (m + 1) => Zor (p.getD x.val T0) (p.getD y.val T0))) := by
 have h : ∀ x y : Fin (m + 1), (ltOf (fun x y : Fin (m + 1) => Zor (p.getD x.val T0) (p.getD y.val T0))) x y = ltT (p.getD x.val T0) (p.getD y.val T0) := fun x y => by
  have := Zir (p.getD x.val T0) (p.getD y.val T0)
  rw [Bool.eq_iff_iff, ← this]; simp [ltOf]
 refine ⟨fun x => ?_, fun x y z => ?_, fun x y z => ?_⟩
 · rw [h]; exact Zkn _
 · rw [h, h, h]; exact Zfw
 · rw [h, h, h]; exact Zkm
theorem Zo5 {p : List Tm} (hd : dif p) {m : Nat} (hm : p.length = m + 1) : ∀ x y : Fin (m + 1), (ltOf (fun x y : Fin (m + 1) => Zor (p.getD x.val T0) (p.getD y.val T0))) x y = false →
  (ltOf (fun x y : Fin (m + 1) => Zor (p.getD x.val T0) (p.getD y.val T0))) y x = false → x = y := by
 intro x y h1 h2
 have h : ∀ s t : Tm, decide (Zor s t < 0) = ltT s t := fun s t => by
  have := Zir s t
  rw [Bool.eq_iff_iff, ← this]; simp
 have h3 := Ziu ((h _ _).symm.trans h1) ((h _ _).symm.trans h2)
 apply Fin.ext
 rcases Nat.lt_trichotomy x.val y.val with h4 | h4 | h4
 ·
  have := List.pairwise_iff_getElem.1 hd x.val y.val oo oo h4
  simp only [List.getD, List.getElem?_eq_getElem (show x.val < p.length by omega), List.getElem?_eq_getElem (show y.val < p.length by omega), Option.getD_some] at h3
  exact absurd h3 this
 · exact h4
 ·
  have := List.pairwise_iff_getElem.1 hd y.val x.val oo oo h4
  simp only [List.getD, List.getElem?_eq_getElem (show x.val < p.length by omega), List.getElem?_eq_getElem (show y.val < p.length by omega), Option.getD_some] at h3
  exact absurd ⟨h3.1.symm, h3.2.symm⟩ this
theorem Zsz {P : Program} {f : FuncId} {args : List Value} {v : Value} (h : Ys P f args v) (Φ : List Zy) : Vj P f args Φ v := fun X w h1 _ => h X w h1 (fun _ hR => nomatch hR)
theorem C_pdqT (b cap : Nat) (p : List Tm) (R : List Value) (limit : Nat) (hlim : limit < 4611686018427387904) (hd : dif p) (hp : ∀ t ∈ p, t.i + t.j ≤ 12) (hn : p.length ≤ 1000000) (σ : List (Nat × Obj)) (Φ : List Zy) :
  Zob Tryz.prog 191 [.slice (some ⟨b, 0, none⟩) p.length cap, .int .i64 ((0 : Nat) : Int), .int .i64 ((p.length : Nat) : Int), .int .i64 ((limit : Nat) : Int), .func (.func 90) #[] #[]]
   ((b, .cells (cellsOf Zp p ++ R).toArray 117 (0, 0)) :: σ) Φ
   (fun v σ' Ψ => v = .tuple #[] ∧ σ' = (b, .cells (cellsOf Zp (p.mergeSort fun s t => !ltT t s) ++ R).toArray 117 (0, 0)) :: σ ∧ Ψ = Φ) := by
 rcases Nat.eq_zero_or_pos p.length with h0 | h0
 ·
  have hp0 : p = [] := List.eq_nil_of_length_eq_zero h0
  subst hp0
  intro S w0 w hS hm
  refine (AnyF.pdqsortCmpFunc_none Qf4 (some ⟨b, 0, none⟩) cap (limit : Int) (.func (.func 90) #[] #[]) w).mono ?_
  rintro e w' ⟨he, hw⟩
  subst hw
  exact ⟨_, _, _, he, ⟨rfl, by rw [List.mergeSort_nil], rfl⟩, hm⟩
 ·
  obtain ⟨m, hm⟩ : ∃ m, p.length = m + 1 := ⟨p.length - 1, oo⟩
  have hg : ∀ k : Fin (m + 1), (p.getD k.val T0) ∈ p := fun k => getD_mem p oo
  have hmap : ((List.range p.length).map (Fin.ofNat (m + 1))).map (fun k : Fin (m + 1) => p.getD k.val T0) = p := by
   apply List.ext_getElem?
   intro j
   rw [List.map_map]
   by_cases hj : j < p.length
   ·
    rw [List.getElem?_map, List.getElem?_range hj, Option.map_some, List.getElem?_eq_getElem hj]
    simp only [Function.comp, Fin.ofNat]
    rw [Nat.mod_eq_of_lt oo]
    simp [List.getD, hj]
   · rw [List.getElem?_eq_none (by simp; omega), List.getElem?_eq_none oo]
  have hflat : ∀ l : List (Fin (m + 1)), l.flatMap (fun k => (Zp (p.getD k.val T0)).cells.toList) = cellsOf Zp (l.map (fun k : Fin (m + 1) => p.getD k.val T0)) := fun l => by
   unfold cellsOf; rw [List.flatMap_map]
  have hl : ((List.range p.length).map (Fin.ofNat (m + 1))).length = p.length := by simp
  have h := Zsy (P := Tryz.prog) (α := Fin (m + 1)) (k := 7) (enc := fun k => (Zp (p.getD k.val T0)).cells.toList) (σ := σ) (Φ := Φ) Qf4 isAgg117 sizeOf117 (fun _ => rfl) dd
   (fun x v hv => by
    simp only [Value.cells, List.mem_cons, List.not_mem_nil, or_false] at hv
    rcases hv with rfl | rfl | rfl | rfl | rfl | rfl | rfl <;> rfl)
   (fun x y => Zor (p.getD x.val T0) (p.getD y.val T0)) (Zvz p m) (Zo5 hd hm) (g := 90) (cb := #[]) call90
   (fun x y => Zsz (Zmf (p.getD x.val T0) (p.getD y.val T0) (by have := hp _ (hg x); omega) (by have := hp _ (hg y); omega)) Φ) b cap 117 ((List.range p.length).map (Fin.ofNat (m + 1))) R limit hlim oo
  rw [hflat, hmap, hl] at h
  have e3 := List.map_mergeSort (r := fun x y : Fin (m + 1) => !(ltOf fun x y : Fin (m + 1) => Zor (p.getD x.val T0) (p.getD y.val T0)) y x) (s := fun s t => !ltT t s) (f := fun k : Fin (m + 1) => p.getD k.val T0) (l := (List.range p.length).map (Fin.ofNat (m + 1)))
   (fun x _ y _ => by
    have := Zir (p.getD y.val T0) (p.getD x.val T0)
    congr 1
    rw [Bool.eq_iff_iff, ← this]; simp [ltOf])
  rw [hmap] at e3
  simp only [hflat] at h
  rw [e3] at h
  exact h
theorem C_pdq0 (ad : Option Addr) (cap limit : Nat) (fv : Value) : Ys Tryz.prog 191 [.slice ad 0 cap, .int .i64 ((0 : Nat) : Int), .int .i64 ((0 : Nat) : Int), .int .i64 ((limit : Nat) : Int), fv] (.tuple #[]) := by
 intro X w _ _
 refine (AnyF.pdqsortCmpFunc_none Qf4 ad cap (limit : Int) fv w).mono ?_
 rintro e w' ⟨he, hw⟩
 subst hw
 exact ⟨_, [], he, ⟨rfl, rfl⟩, Below.refl _ _, by simp⟩
end Go.Proofs.YtddhlkfpdjmplaaGreatDoor
