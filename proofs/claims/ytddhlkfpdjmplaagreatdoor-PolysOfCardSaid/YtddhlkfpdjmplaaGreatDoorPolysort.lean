/- Written by a program of ours (gen.py) out of short specifications. By an AI agent. -/
import Derived.Test.YtddhlkfpdjmplaaGreatDoorPolys2
import Derived.Test.YtddhlkfpdjmplaaGreatDoorFxVK
import Derived.Shelf.SlSortCmp.PdqK
set_option linter.unusedVariables false
set_option linter.unusedSimpArgs false
set_option maxRecDepth 4000
namespace Go.Proofs.YtddhlkfpdjmplaaGreatDoor
open Go Go.Proofs Go.Fx Go.Shelf Go.RowKit Go.Sort
def pdqFn_ren : Go.Shelf.Ren := ⟨fun | 14 => 191 | 20 => 211 | 21 => 212 | 22 => 213 | 23 => 214 | 24 => 215 | 25 => 216 | 26 => 217 | 27 => 218 | 46 => 235 | 47 => 236 | 48 => 237 | 49 => 238 | 50 => 239 | 15 => 192 | 57 => 245 | 28 => 219 | 29 => 220 | n => n, fun | 24 => 117 | 22 => 46 | 3 => 3 | 25 => 138 | 4 => 4 | 0 => 0 | 46 => 258 | 45 => 257 | 50 => 185 | 66 => 278 | 39 => 101 | 55 => 36 | 70 => 282 | 76 => 288 | 77 => 289 | 53 => 23 | 5 => 5 | 9 => 9 | n => n, fun | n => n⟩
theorem pdqFn : Go.Proofs.SlLaysF0.n14 Tryz.prog pdqFn_ren := {
  mixed := by kernel_rfl
  f14 := ⟨Tryz.f191.name, by decide, Tryz.func191.trans (congrArg some (by kernel_rfl))⟩
  f15 := Tryz.func192.trans (congrArg some (by kernel_rfl))
  f20 := ⟨Tryz.f211.name, by decide, Tryz.func211.trans (congrArg some (by kernel_rfl))⟩
  f21 := ⟨Tryz.f212.name, by decide, Tryz.func212.trans (congrArg some (by kernel_rfl))⟩
  f22 := ⟨Tryz.f213.name, by decide, Tryz.func213.trans (congrArg some (by kernel_rfl))⟩
  f23 := ⟨Tryz.f214.name, by decide, Tryz.func214.trans (congrArg some (by kernel_rfl))⟩
  f24 := ⟨Tryz.f215.name, by decide, Tryz.func215.trans (congrArg some (by kernel_rfl))⟩
  f25 := ⟨Tryz.f216.name, by decide, Tryz.func216.trans (congrArg some (by kernel_rfl))⟩
  f26 := ⟨Tryz.f217.name, by decide, Tryz.func217.trans (congrArg some (by kernel_rfl))⟩
  f27 := ⟨Tryz.f218.name, by decide, Tryz.func218.trans (congrArg some (by kernel_rfl))⟩
  f28 := Tryz.func219.trans (congrArg some (by kernel_rfl))
  f29 := Tryz.func220.trans (congrArg some (by kernel_rfl))
  f46 := ⟨Tryz.f235.name, by decide, Tryz.func235.trans (congrArg some (by kernel_rfl))⟩
  f47 := Tryz.func236.trans (congrArg some (by kernel_rfl))
  f48 := Tryz.func237.trans (congrArg some (by kernel_rfl))
  f49 := ⟨Tryz.f238.name, by decide, Tryz.func238.trans (congrArg some (by kernel_rfl))⟩
  f50 := ⟨Tryz.f239.name, by decide, Tryz.func239.trans (congrArg some (by kernel_rfl))⟩
  f57 := ⟨Tryz.f245.name, by decide, Tryz.func245.trans (congrArg some (by kernel_rfl))⟩
  t0 := Tryz.underlying0
  a0 := Tryz.isAgg0
  z0 := Tryz.sizeOf0
  v0 := Tryz.zeroValue0
  t3 := Tryz.underlying3
  a3 := Tryz.isAgg3
  z3 := Tryz.sizeOf3
  v3 := Tryz.zeroValue3
  t4 := Tryz.underlying4
  a4 := Tryz.isAgg4
  z4 := Tryz.sizeOf4
  v4 := Tryz.zeroValue4
  t5 := Tryz.underlying5
  a5 := Tryz.isAgg5
  z5 := Tryz.sizeOf5
  v5 := Tryz.zeroValue5
  t9 := Tryz.underlying9
  a9 := Tryz.isAgg9
  z9 := Tryz.sizeOf9
  v9 := Tryz.zeroValue9
  t22 := Tryz.underlying46
  a22 := Tryz.isAgg46
  z22 := Tryz.sizeOf46
  v22 := Tryz.zeroValue46
  t25 := Tryz.underlying138
  a25 := Tryz.isAgg138
  z25 := Tryz.sizeOf138
  v25 := Tryz.zeroValue138
  t39 := Tryz.underlying101
  a39 := Tryz.isAgg101
  z39 := Tryz.sizeOf101
  v39 := Tryz.zeroValue101
  t45 := Tryz.underlying257
  a45 := Tryz.isAgg257
  z45 := Tryz.sizeOf257
  v45 := Tryz.zeroValue257
  t46 := Tryz.underlying258
  a46 := Tryz.isAgg258
  z46 := Tryz.sizeOf258
  v46 := Tryz.zeroValue258
  t50 := Tryz.underlying185
  a50 := Tryz.isAgg185
  z50 := Tryz.sizeOf185
  v50 := Tryz.zeroValue185
  t53 := Tryz.underlying23
  a53 := Tryz.isAgg23
  z53 := Tryz.sizeOf23
  v53 := Tryz.zeroValue23
  t55 := Tryz.underlying36
  a55 := Tryz.isAgg36
  z55 := Tryz.sizeOf36
  v55 := Tryz.zeroValue36
  t66 := Tryz.underlying278
  a66 := Tryz.isAgg278
  z66 := Tryz.sizeOf278
  v66 := Tryz.zeroValue278
  t70 := Tryz.underlying282
  a70 := Tryz.isAgg282
  z70 := Tryz.sizeOf282
  v70 := Tryz.zeroValue282
  t76 := Tryz.underlying288
  a76 := Tryz.isAgg288
  z76 := Tryz.sizeOf288
  v76 := Tryz.zeroValue288
  t77 := Tryz.underlying289
  a77 := Tryz.isAgg289
  z77 := Tryz.sizeOf289
  v77 := Tryz.zeroValue289 }
def lenFn_ren : Go.Shelf.Ren := ⟨fun | 15 => 192 | 28 => 219 | 29 => 220 | n => n, fun | 39 => 101 | 3 => 3 | 53 => 23 | 55 => 36 | 4 => 4 | 5 => 5 | 9 => 9 | n => n, fun | n => n⟩
theorem lenFn : Go.Proofs.SlLaysF0.n15 Tryz.prog lenFn_ren := {
  mixed := by kernel_rfl
  f15 := Tryz.func192.trans (congrArg some (by kernel_rfl))
  f28 := Tryz.func219.trans (congrArg some (by kernel_rfl))
  f29 := Tryz.func220.trans (congrArg some (by kernel_rfl))
  t3 := Tryz.underlying3
  a3 := Tryz.isAgg3
  z3 := Tryz.sizeOf3
  v3 := Tryz.zeroValue3
  t4 := Tryz.underlying4
  a4 := Tryz.isAgg4
  z4 := Tryz.sizeOf4
  v4 := Tryz.zeroValue4
  t5 := Tryz.underlying5
  a5 := Tryz.isAgg5
  z5 := Tryz.sizeOf5
  v5 := Tryz.zeroValue5
  t9 := Tryz.underlying9
  a9 := Tryz.isAgg9
  z9 := Tryz.sizeOf9
  v9 := Tryz.zeroValue9
  t39 := Tryz.underlying101
  a39 := Tryz.isAgg101
  z39 := Tryz.sizeOf101
  v39 := Tryz.zeroValue101
  t53 := Tryz.underlying23
  a53 := Tryz.isAgg23
  z53 := Tryz.sizeOf23
  v53 := Tryz.zeroValue23
  t55 := Tryz.underlying36
  a55 := Tryz.isAgg36
  z55 := Tryz.sizeOf36
  v55 := Tryz.zeroValue36 }
theorem C_bitsLen (n : Nat) (hn : n < 18446744073709551616) : CtrV Tryz.prog 192 [.int .u64 ((n : Nat) : Int)] (.int .i64 ((Lib.bitLen n : Nat) : Int)) := by
  intro X w _ _
  refine (Any.bits_Len (SlLaysF0.n15.bits lenFn) (n : Int) w (by omega) (by omega)).mono ?_
  rintro e w' ⟨he, hw⟩
  rw [Int.toNat_natCast] at he
  subst hw
  exact ⟨_, [], he, ⟨rfl, rfl⟩, Below.refl _ _, by simp⟩
theorem swo_terms (p : List Tm) (m : Nat) : SWO (ltOf (fun x y : Fin (m + 1) => ordT (p.getD x.val T0) (p.getD y.val T0))) := by
  have h : ∀ x y : Fin (m + 1), (ltOf (fun x y : Fin (m + 1) => ordT (p.getD x.val T0) (p.getD y.val T0))) x y = ltT (p.getD x.val T0) (p.getD y.val T0) := fun x y => by
    have := ordT_lt (p.getD x.val T0) (p.getD y.val T0)
    rw [Bool.eq_iff_iff, ← this]; simp [ltOf]
  refine ⟨fun x => ?_, fun x y z => ?_, fun x y z => ?_⟩
  · rw [h]; exact ltT_irrefl _
  · rw [h, h, h]; exact ltT_trans
  · rw [h, h, h]; exact ltT_ntrans
theorem terms_total {p : List Tm} (hd : dif p) {m : Nat} (hm : p.length = m + 1) : ∀ x y : Fin (m + 1), (ltOf (fun x y : Fin (m + 1) => ordT (p.getD x.val T0) (p.getD y.val T0))) x y = false →
    (ltOf (fun x y : Fin (m + 1) => ordT (p.getD x.val T0) (p.getD y.val T0))) y x = false → x = y := by
  intro x y h1 h2
  have h : ∀ s t : Tm, decide (ordT s t < 0) = ltT s t := fun s t => by
    have := ordT_lt s t
    rw [Bool.eq_iff_iff, ← this]; simp
  have h3 := ltT_total ((h _ _).symm.trans h1) ((h _ _).symm.trans h2)
  apply Fin.ext
  rcases Nat.lt_trichotomy x.val y.val with h4 | h4 | h4
  · have := List.pairwise_iff_getElem.1 hd x.val y.val (by omega) (by omega) h4
    simp only [List.getD, List.getElem?_eq_getElem (show x.val < p.length by omega), List.getElem?_eq_getElem (show y.val < p.length by omega), Option.getD_some] at h3
    exact absurd h3 this
  · exact h4
  · have := List.pairwise_iff_getElem.1 hd y.val x.val (by omega) (by omega) h4
    simp only [List.getD, List.getElem?_eq_getElem (show x.val < p.length by omega), List.getElem?_eq_getElem (show y.val < p.length by omega), Option.getD_some] at h3
    exact absurd ⟨h3.1.symm, h3.2.symm⟩ this
theorem ctrV_W {P : Program} {f : FuncId} {args : List Value} {v : Value} (h : CtrV P f args v) (Φ : List SPred) : CtrW P f args Φ v := fun X w h1 _ => h X w h1 (fun _ hR => nomatch hR)
theorem C_pdqT (b cap : Nat) (p : List Tm) (R : List Value) (limit : Nat) (hlim : limit < 4611686018427387904) (hd : dif p) (hp : ∀ t ∈ p, t.i + t.j ≤ 12) (hn : p.length ≤ 1000000) (σ : List (Nat × Obj)) (Φ : List SPred) :
    CtrM Tryz.prog 191 [.slice (some ⟨b, 0, none⟩) p.length cap, .int .i64 ((0 : Nat) : Int), .int .i64 ((p.length : Nat) : Int), .int .i64 ((limit : Nat) : Int), .func (.func 90) #[] #[]]
      ((b, .cells (cellsOf encT p ++ R).toArray 117 (0, 0)) :: σ) Φ
      (fun v σ' Ψ => v = .tuple #[] ∧ σ' = (b, .cells (cellsOf encT (p.mergeSort fun s t => !ltT t s) ++ R).toArray 117 (0, 0)) :: σ ∧ Ψ = Φ) := by
  rcases Nat.eq_zero_or_pos p.length with h0 | h0
  · have hp0 : p = [] := List.eq_nil_of_length_eq_zero h0
    subst hp0
    intro S w0 w hS hm
    refine (AnyF.pdqsortCmpFunc_none pdqFn (some ⟨b, 0, none⟩) cap (limit : Int) (.func (.func 90) #[] #[]) w).mono ?_
    rintro e w' ⟨he, hw⟩
    subst hw
    exact ⟨_, _, _, he, ⟨rfl, by rw [List.mergeSort_nil], rfl⟩, hm⟩
  · obtain ⟨m, hm⟩ : ∃ m, p.length = m + 1 := ⟨p.length - 1, by omega⟩
    have hg : ∀ k : Fin (m + 1), (p.getD k.val T0) ∈ p := fun k => getD_mem p (by omega)
    have hmap : ((List.range p.length).map (Fin.ofNat (m + 1))).map (fun k : Fin (m + 1) => p.getD k.val T0) = p := by
      apply List.ext_getElem?
      intro j
      rw [List.map_map]
      by_cases hj : j < p.length
      · rw [List.getElem?_map, List.getElem?_range hj, Option.map_some, List.getElem?_eq_getElem hj]
        simp only [Function.comp, Fin.ofNat]
        rw [Nat.mod_eq_of_lt (by omega)]
        simp [List.getD, hj]
      · rw [List.getElem?_eq_none (by simp; omega), List.getElem?_eq_none (by omega)]
    have hflat : ∀ l : List (Fin (m + 1)), l.flatMap (fun k => (encT (p.getD k.val T0)).cells.toList) = cellsOf encT (l.map (fun k : Fin (m + 1) => p.getD k.val T0)) := fun l => by
      unfold cellsOf; rw [List.flatMap_map]
    have hl : ((List.range p.length).map (Fin.ofNat (m + 1))).length = p.length := by simp
    have h := ctr_pdqK (P := Tryz.prog) (α := Fin (m + 1)) (k := 7) (enc := fun k => (encT (p.getD k.val T0)).cells.toList) (σ := σ) (Φ := Φ) pdqFn Tryz.isAgg117 Tryz.sizeOf117 (fun _ => rfl) (by decide)
      (fun x v hv => by
        simp only [Value.cells, List.mem_cons, List.not_mem_nil, or_false] at hv
        rcases hv with rfl | rfl | rfl | rfl | rfl | rfl | rfl <;> rfl)
      (fun x y => ordT (p.getD x.val T0) (p.getD y.val T0)) (swo_terms p m) (terms_total hd hm) (g := 90) (cb := #[]) Tryz.call90
      (fun x y => ctrV_W (C_porder (p.getD x.val T0) (p.getD y.val T0) (by have := hp _ (hg x); omega) (by have := hp _ (hg y); omega)) Φ) b cap 117 ((List.range p.length).map (Fin.ofNat (m + 1))) R limit hlim (by omega)
    rw [hflat, hmap, hl] at h
    have e3 := List.map_mergeSort (r := fun x y : Fin (m + 1) => !(ltOf fun x y : Fin (m + 1) => ordT (p.getD x.val T0) (p.getD y.val T0)) y x) (s := fun s t => !ltT t s) (f := fun k : Fin (m + 1) => p.getD k.val T0) (l := (List.range p.length).map (Fin.ofNat (m + 1)))
      (fun x _ y _ => by
        have := ordT_lt (p.getD y.val T0) (p.getD x.val T0)
        congr 1
        rw [Bool.eq_iff_iff, ← this]; simp [ltOf])
    rw [hmap] at e3
    simp only [hflat] at h
    rw [e3] at h
    exact h
theorem C_pdq0 (ad : Option Addr) (cap limit : Nat) (fv : Value) : CtrV Tryz.prog 191 [.slice ad 0 cap, .int .i64 ((0 : Nat) : Int), .int .i64 ((0 : Nat) : Int), .int .i64 ((limit : Nat) : Int), fv] (.tuple #[]) := by
  intro X w _ _
  refine (AnyF.pdqsortCmpFunc_none pdqFn ad cap (limit : Int) fv w).mono ?_
  rintro e w' ⟨he, hw⟩
  subst hw
  exact ⟨_, [], he, ⟨rfl, rfl⟩, Below.refl _ _, by simp⟩
end Go.Proofs.YtddhlkfpdjmplaaGreatDoor
