/- Walks of functions. By an AI agent. -/
import Derived.Test.YthcjdeklpegceaaGreatDoorPolys2
import Derived.Test.YthcjdeklpegceaaGreatDoorFxVK
import Derived.Shelf.SlSortCmp.PdqK
set_option linter.unusedVariables false
set_option linter.unusedSimpArgs false
set_option maxRecDepth 4000
namespace Go.Proofs.YthcjdeklpegceaaGreatDoor
open Go Go.Proofs Go.Fx Go.Shelf Go.RowKit Go.Sort Tryz
def Zuw : Go.Shelf.Ren := ⟨fun | 14 => 167 | 20 => 188 | 21 => 189 | 22 => 190 | 23 => 191 | 24 => 192 | 25 => 193 | 26 => 194 | 27 => 195 | 46 => 209 | 47 => 210 | 48 => 211 | 49 => 212 | 50 => 213 | 15 => 168 | 57 => 220 | 28 => 196 | 29 => 197 | n => n, fun | 24 => 125 | 22 => 64 | 3 => 3 | 25 => 205 | 4 => 4 | 0 => 0 | 46 => 253 | 45 => 252 | 50 => 199 | 66 => 267 | 39 => 185 | 55 => 33 | 70 => 271 | 76 => 278 | 77 => 279 | 53 => 22 | 5 => 5 | 9 => 9 | n => n, fun | n => n⟩
theorem Qbt : Go.Proofs.SlLaysF0.n14 Tryz.prog Zuw := {
 mixed := by kernel_rfl
 f14 := ⟨Tryz.f167.name, by decide, func167.trans (congrArg some kk)⟩
 f15 := func168.trans (congrArg some kk)
 f20 := ⟨Tryz.f188.name, by decide, func188.trans (congrArg some kk)⟩
 f21 := ⟨Tryz.f189.name, by decide, func189.trans (congrArg some kk)⟩
 f22 := ⟨Tryz.f190.name, by decide, func190.trans (congrArg some kk)⟩
 f23 := ⟨Tryz.f191.name, by decide, func191.trans (congrArg some kk)⟩
 f24 := ⟨Tryz.f192.name, by decide, func192.trans (congrArg some kk)⟩
 f25 := ⟨Tryz.f193.name, by decide, func193.trans (congrArg some kk)⟩
 f26 := ⟨Tryz.f194.name, by decide, func194.trans (congrArg some kk)⟩
 f27 := ⟨Tryz.f195.name, by decide, func195.trans (congrArg some kk)⟩
 f28 := func196.trans (congrArg some kk)
 f29 := func197.trans (congrArg some kk)
 f46 := ⟨Tryz.f209.name, by decide, func209.trans (congrArg some kk)⟩
 f47 := func210.trans (congrArg some kk)
 f48 := func211.trans (congrArg some kk)
 f49 := ⟨Tryz.f212.name, by decide, func212.trans (congrArg some kk)⟩
 f50 := ⟨Tryz.f213.name, by decide, func213.trans (congrArg some kk)⟩
 f57 := ⟨Tryz.f220.name, by decide, func220.trans (congrArg some kk)⟩
 t0 := underlying0
 a0 := isAgg0
 z0 := sizeOf0
 v0 := zeroValue0
 t3 := underlying3
 a3 := isAgg3
 z3 := sizeOf3
 v3 := zeroValue3
 t4 := underlying4
 a4 := isAgg4
 z4 := sizeOf4
 v4 := zeroValue4
 t5 := underlying5
 a5 := isAgg5
 z5 := sizeOf5
 v5 := zeroValue5
 t9 := underlying9
 a9 := isAgg9
 z9 := sizeOf9
 v9 := zeroValue9
 t22 := underlying64
 a22 := isAgg64
 z22 := sizeOf64
 v22 := zeroValue64
 t25 := underlying205
 a25 := isAgg205
 z25 := sizeOf205
 v25 := zeroValue205
 t39 := underlying185
 a39 := isAgg185
 z39 := sizeOf185
 v39 := zeroValue185
 t45 := underlying252
 a45 := isAgg252
 z45 := sizeOf252
 v45 := zeroValue252
 t46 := underlying253
 a46 := isAgg253
 z46 := sizeOf253
 v46 := zeroValue253
 t50 := underlying199
 a50 := isAgg199
 z50 := sizeOf199
 v50 := zeroValue199
 t53 := underlying22
 a53 := isAgg22
 z53 := sizeOf22
 v53 := zeroValue22
 t55 := underlying33
 a55 := isAgg33
 z55 := sizeOf33
 v55 := zeroValue33
 t66 := underlying267
 a66 := isAgg267
 z66 := sizeOf267
 v66 := zeroValue267
 t70 := underlying271
 a70 := isAgg271
 z70 := sizeOf271
 v70 := zeroValue271
 t76 := underlying278
 a76 := isAgg278
 z76 := sizeOf278
 v76 := zeroValue278
 t77 := underlying279
 a77 := isAgg279
 z77 := sizeOf279
 v77 := zeroValue279 }
def Zvn : Go.Shelf.Ren := ⟨fun | 15 => 168 | 28 => 196 | 29 => 197 | n => n, fun | 39 => 185 | 3 => 3 | 53 => 22 | 55 => 33 | 4 => 4 | 5 => 5 | 9 => 9 | n => n, fun | n => n⟩
theorem lenFn : Go.Proofs.SlLaysF0.n15 Tryz.prog Zvn := {
 mixed := by kernel_rfl
 f15 := func168.trans (congrArg some kk)
 f28 := func196.trans (congrArg some kk)
 f29 := func197.trans (congrArg some kk)
 t3 := underlying3
 a3 := isAgg3
 z3 := sizeOf3
 v3 := zeroValue3
 t4 := underlying4
 a4 := isAgg4
 z4 := sizeOf4
 v4 := zeroValue4
 t5 := underlying5
 a5 := isAgg5
 z5 := sizeOf5
 v5 := zeroValue5
 t9 := underlying9
 a9 := isAgg9
 z9 := sizeOf9
 v9 := zeroValue9
 t39 := underlying185
 a39 := isAgg185
 z39 := sizeOf185
 v39 := zeroValue185
 t53 := underlying22
 a53 := isAgg22
 z53 := sizeOf22
 v53 := zeroValue22
 t55 := underlying33
 a55 := isAgg33
 z55 := sizeOf33
 v55 := zeroValue33 }
theorem Znw (n : Nat) (hn : n < 18446744073709551616) : Xm Tryz.prog 168 [.int .u64 ((n : Nat) : Int)] (.int .i64 ((Lib.bitLen n : Nat) : Int)) := by
 intro X w _ _
 refine (Any.bits_Len (SlLaysF0.n15.bits lenFn) (n : Int) w oo oo).mono ?_
 rintro e w' ⟨he, hw⟩
 rw [Int.toNat_natCast] at he
 subst hw
 exact ⟨_, [], he, ⟨rfl, rfl⟩, Below.refl _ _, by simp⟩
theorem Zty (p : List Tm) (m : Nat) : SWO (ltOf (fun x y : Fin (m + 1) => Zxo (p.getD x.val T0) (p.getD y.val T0))) := by
 have h : ∀ x y : Fin (m + 1), (ltOf (fun x y : Fin (m + 1) => Zxo (p.getD x.val T0) (p.getD y.val T0))) x y = ltT (p.getD x.val T0) (p.getD y.val T0) := fun x y => by
  have := Zol (p.getD x.val T0) (p.getD y.val T0)
  rw [Bool.eq_iff_iff, ← this]; simp [ltOf]
 refine ⟨fun x => ?_, fun x y z => ?_, fun x y z => ?_⟩
 · rw [h]; exact Zkh _
 · rw [h, h, h]; exact Zil
 · rw [h, h, h]; exact Zkg
theorem Zob {p : List Tm} (hd : dif p) {m : Nat} (hm : p.length = m + 1) : ∀ x y : Fin (m + 1), (ltOf (fun x y : Fin (m + 1) => Zxo (p.getD x.val T0) (p.getD y.val T0))) x y = false →
  (ltOf (fun x y : Fin (m + 1) => Zxo (p.getD x.val T0) (p.getD y.val T0))) y x = false → x = y := by
 intro x y h1 h2
 have h : ∀ s t : Tm, decide (Zxo s t < 0) = ltT s t := fun s t => by
  have := Zol s t
  rw [Bool.eq_iff_iff, ← this]; simp
 have h3 := Zim ((h _ _).symm.trans h1) ((h _ _).symm.trans h2)
 apply Fin.ext
 rcases Nat.lt_trichotomy x.val y.val with h4 | h4 | h4
 ·
  have := List.pairwise_iff_getElem.1 hd x.val y.val oo oo h4
  simp only [List.getD, List.getElem?_eq_getElem (show x.val < p.length by omega), List.getElem?_eq_getElem (show y.val < p.length by omega), Option.getD_some] at h3
  exact absurd h3 this
 · exact h4
 ·
  have := List.pairwise_iff_getElem.1 hd y.val x.val oo oo h4
  simp only [List.getD, List.getElem?_eq_getElem (show x.val < p.length by omega), List.getElem?_eq_getElem (show y.val < p.length by omega), Option.getD_some] at h3
  exact absurd ⟨h3.1.symm, h3.2.symm⟩ this
theorem Zwc {P : Program} {f : FuncId} {args : List Value} {v : Value} (h : Xm P f args v) (Φ : List Qf) : Gh P f args Φ v := fun X w h1 _ => h X w h1 (fun _ hR => nomatch hR)
theorem C_pdqT (b cap : Nat) (p : List Tm) (R : List Value) (limit : Nat) (hlim : limit < 4611686018427387904) (hd : dif p) (hp : ∀ t ∈ p, t.i + t.j ≤ 12) (hn : p.length ≤ 1000000) (σ : List (Nat × Obj)) (Φ : List Qf) :
  Znq Tryz.prog 167 [.slice (some ⟨b, 0, none⟩) p.length cap, .int .i64 ((0 : Nat) : Int), .int .i64 ((p.length : Nat) : Int), .int .i64 ((limit : Nat) : Int), .func (.func 141) #[] #[]]
   ((b, .cells (cellsOf Qh p ++ R).toArray 125 (0, 0)) :: σ) Φ
   (fun v σ' Ψ => v = .tuple #[] ∧ σ' = (b, .cells (cellsOf Qh (p.mergeSort fun s t => !ltT t s) ++ R).toArray 125 (0, 0)) :: σ ∧ Ψ = Φ) := by
 rcases Nat.eq_zero_or_pos p.length with h0 | h0
 ·
  have hp0 : p = [] := List.eq_nil_of_length_eq_zero h0
  subst hp0
  intro S w0 w hS hm
  refine (AnyF.pdqsortCmpFunc_none Qbt (some ⟨b, 0, none⟩) cap (limit : Int) (.func (.func 141) #[] #[]) w).mono ?_
  rintro e w' ⟨he, hw⟩
  subst hw
  exact ⟨_, _, _, he, ⟨rfl, by rw [List.mergeSort_nil], rfl⟩, hm⟩
 ·
  obtain ⟨m, hm⟩ : ∃ m, p.length = m + 1 := ⟨p.length - 1, oo⟩
  have hg : ∀ k : Fin (m + 1), (p.getD k.val T0) ∈ p := fun k => getD_mem p oo
  have hmap : ((List.range p.length).map (Fin.ofNat (m + 1))).map (fun k : Fin (m + 1) => p.getD k.val T0) = p := by
   apply List.ext_getElem?
   intro j
   rw [List.map_map]
   by_cases hj : j < p.length
   ·
    rw [List.getElem?_map, List.getElem?_range hj, Option.map_some, List.getElem?_eq_getElem hj]
    simp only [Function.comp, Fin.ofNat]
    rw [Nat.mod_eq_of_lt oo]
    simp [List.getD, hj]
   · rw [List.getElem?_eq_none (by simp; omega), List.getElem?_eq_none oo]
  have hflat : ∀ l : List (Fin (m + 1)), l.flatMap (fun k => (Qh (p.getD k.val T0)).cells.toList) = cellsOf Qh (l.map (fun k : Fin (m + 1) => p.getD k.val T0)) := fun l => by
   unfold cellsOf; rw [List.flatMap_map]
  have hl : ((List.range p.length).map (Fin.ofNat (m + 1))).length = p.length := by simp
  have h := Zq6 (P := Tryz.prog) (α := Fin (m + 1)) (k := 7) (enc := fun k => (Qh (p.getD k.val T0)).cells.toList) (σ := σ) (Φ := Φ) Qbt isAgg125 sizeOf125 (fun _ => rfl) dd
   (fun x v hv => by
    simp only [Value.cells, List.mem_cons, List.not_mem_nil, or_false] at hv
    rcases hv with rfl | rfl | rfl | rfl | rfl | rfl | rfl <;> rfl)
   (fun x y => Zxo (p.getD x.val T0) (p.getD y.val T0)) (Zty p m) (Zob hd hm) (g := 141) (cb := #[]) call141
   (fun x y => Zwc (Zz1 (p.getD x.val T0) (p.getD y.val T0) (by have := hp _ (hg x); omega) (by have := hp _ (hg y); omega)) Φ) b cap 125 ((List.range p.length).map (Fin.ofNat (m + 1))) R limit hlim oo
  rw [hflat, hmap, hl] at h
  have e3 := List.map_mergeSort (r := fun x y : Fin (m + 1) => !(ltOf fun x y : Fin (m + 1) => Zxo (p.getD x.val T0) (p.getD y.val T0)) y x) (s := fun s t => !ltT t s) (f := fun k : Fin (m + 1) => p.getD k.val T0) (l := (List.range p.length).map (Fin.ofNat (m + 1)))
   (fun x _ y _ => by
    have := Zol (p.getD y.val T0) (p.getD x.val T0)
    congr 1
    rw [Bool.eq_iff_iff, ← this]; simp [ltOf])
  rw [hmap] at e3
  simp only [hflat] at h
  rw [e3] at h
  exact h
theorem C_pdq0 (ad : Option Addr) (cap limit : Nat) (fv : Value) : Xm Tryz.prog 167 [.slice ad 0 cap, .int .i64 ((0 : Nat) : Int), .int .i64 ((0 : Nat) : Int), .int .i64 ((limit : Nat) : Int), fv] (.tuple #[]) := by
 intro X w _ _
 refine (AnyF.pdqsortCmpFunc_none Qbt ad cap (limit : Int) fv w).mono ?_
 rintro e w' ⟨he, hw⟩
 subst hw
 exact ⟨_, [], he, ⟨rfl, rfl⟩, Below.refl _ _, by simp⟩
end Go.Proofs.YthcjdeklpegceaaGreatDoor
