/- Written by a program of ours (gen.py) out of short specifications. By an AI agent. -/
import Derived.Test.YtmajjidkkpkhcaaGreatMark0
import Derived.Test.YtmajjidkkpkhcaaGreatFxV
import Derived.Shelf.Sort.Plain
set_option linter.unusedVariables false
set_option linter.unusedSimpArgs false
set_option maxRecDepth 4000
namespace Go.Proofs.YtmajjidkkpkhcaaGreat
open Go Go.Proofs Go.Fx Go.Shelf Go.RowKit Go.Sort

def sortFn_ren : Go.Shelf.Ren := ⟨fun | 6 => 25 | 15 => 56 | 14 => 55 | 28 => 93 | 29 => 94 | 20 => 85 | 21 => 86 | 22 => 87 | 23 => 88 | 24 => 89 | 25 => 90 | 26 => 91 | 27 => 92 | 46 => 122 | 47 => 123 | 48 => 124 | 49 => 125 | 50 => 126 | 57 => 138 | n => n, fun | 22 => 28 | 24 => 3 | 25 => 66 | 3 => 3 | 39 => 92 | 0 => 0 | 53 => 23 | 55 => 40 | 4 => 4 | 46 => 120 | 45 => 119 | 50 => 124 | 5 => 5 | 9 => 9 | 66 => 152 | 70 => 156 | 76 => 165 | 77 => 166 | n => n, fun | n => n⟩
theorem sortFn : Go.Proofs.SlLaysF.n6 Tryz.prog sortFn_ren := {
  mixed := by kernel_rfl
  f6 := ⟨Tryz.f25.name, by decide, Tryz.func25.trans (congrArg some (by kernel_rfl))⟩
  f14 := ⟨Tryz.f55.name, by decide, Tryz.func55.trans (congrArg some (by kernel_rfl))⟩
  f15 := Tryz.func56.trans (congrArg some (by kernel_rfl))
  f20 := ⟨Tryz.f85.name, by decide, Tryz.func85.trans (congrArg some (by kernel_rfl))⟩
  f21 := ⟨Tryz.f86.name, by decide, Tryz.func86.trans (congrArg some (by kernel_rfl))⟩
  f22 := ⟨Tryz.f87.name, by decide, Tryz.func87.trans (congrArg some (by kernel_rfl))⟩
  f23 := ⟨Tryz.f88.name, by decide, Tryz.func88.trans (congrArg some (by kernel_rfl))⟩
  f24 := ⟨Tryz.f89.name, by decide, Tryz.func89.trans (congrArg some (by kernel_rfl))⟩
  f25 := ⟨Tryz.f90.name, by decide, Tryz.func90.trans (congrArg some (by kernel_rfl))⟩
  f26 := ⟨Tryz.f91.name, by decide, Tryz.func91.trans (congrArg some (by kernel_rfl))⟩
  f27 := ⟨Tryz.f92.name, by decide, Tryz.func92.trans (congrArg some (by kernel_rfl))⟩
  f28 := Tryz.func93.trans (congrArg some (by kernel_rfl))
  f29 := Tryz.func94.trans (congrArg some (by kernel_rfl))
  f46 := ⟨Tryz.f122.name, by decide, Tryz.func122.trans (congrArg some (by kernel_rfl))⟩
  f47 := Tryz.func123.trans (congrArg some (by kernel_rfl))
  f48 := Tryz.func124.trans (congrArg some (by kernel_rfl))
  f49 := ⟨Tryz.f125.name, by decide, Tryz.func125.trans (congrArg some (by kernel_rfl))⟩
  f50 := ⟨Tryz.f126.name, by decide, Tryz.func126.trans (congrArg some (by kernel_rfl))⟩
  f57 := ⟨Tryz.f138.name, by decide, Tryz.func138.trans (congrArg some (by kernel_rfl))⟩
  t0 := Tryz.underlying0
  a0 := Tryz.isAgg0
  z0 := Tryz.sizeOf0
  v0 := Tryz.zeroValue0
  t3 := Tryz.underlying3
  a3 := Tryz.isAgg3
  z3 := Tryz.sizeOf3
  v3 := Tryz.zeroValue3
  t4 := Tryz.underlying4
  a4 := Tryz.isAgg4
  z4 := Tryz.sizeOf4
  v4 := Tryz.zeroValue4
  t5 := Tryz.underlying5
  a5 := Tryz.isAgg5
  z5 := Tryz.sizeOf5
  v5 := Tryz.zeroValue5
  t9 := Tryz.underlying9
  a9 := Tryz.isAgg9
  z9 := Tryz.sizeOf9
  v9 := Tryz.zeroValue9
  t22 := Tryz.underlying28
  a22 := Tryz.isAgg28
  z22 := Tryz.sizeOf28
  v22 := Tryz.zeroValue28
  a24 := Tryz.isAgg3
  z24 := Tryz.sizeOf3
  t25 := Tryz.underlying66
  a25 := Tryz.isAgg66
  z25 := Tryz.sizeOf66
  v25 := Tryz.zeroValue66
  t39 := Tryz.underlying92
  a39 := Tryz.isAgg92
  z39 := Tryz.sizeOf92
  v39 := Tryz.zeroValue92
  t45 := Tryz.underlying119
  a45 := Tryz.isAgg119
  z45 := Tryz.sizeOf119
  v45 := Tryz.zeroValue119
  t46 := Tryz.underlying120
  a46 := Tryz.isAgg120
  z46 := Tryz.sizeOf120
  v46 := Tryz.zeroValue120
  t50 := Tryz.underlying124
  a50 := Tryz.isAgg124
  z50 := Tryz.sizeOf124
  v50 := Tryz.zeroValue124
  t53 := Tryz.underlying23
  a53 := Tryz.isAgg23
  z53 := Tryz.sizeOf23
  v53 := Tryz.zeroValue23
  t55 := Tryz.underlying40
  a55 := Tryz.isAgg40
  z55 := Tryz.sizeOf40
  v55 := Tryz.zeroValue40
  t66 := Tryz.underlying152
  a66 := Tryz.isAgg152
  z66 := Tryz.sizeOf152
  v66 := Tryz.zeroValue152
  t70 := Tryz.underlying156
  a70 := Tryz.isAgg156
  z70 := Tryz.sizeOf156
  v70 := Tryz.zeroValue156
  t76 := Tryz.underlying165
  a76 := Tryz.isAgg165
  z76 := Tryz.sizeOf165
  v76 := Tryz.zeroValue165
  t77 := Tryz.underlying166
  a77 := Tryz.isAgg166
  z77 := Tryz.sizeOf166
  v77 := Tryz.zeroValue166 }
def sortFn0_ren : Go.Shelf.Ren := ⟨fun | 6 => 25 | 15 => 56 | 14 => 55 | 28 => 93 | 29 => 94 | 20 => 85 | 21 => 86 | 22 => 87 | 23 => 88 | 24 => 89 | 25 => 90 | 26 => 91 | 27 => 92 | 46 => 122 | 47 => 123 | 48 => 124 | 49 => 125 | 50 => 126 | 57 => 138 | n => n, fun | 22 => 28 | 24 => 3 | 25 => 66 | 3 => 3 | 39 => 92 | 0 => 0 | 53 => 23 | 55 => 40 | 4 => 4 | 46 => 120 | 45 => 119 | 50 => 124 | 5 => 5 | 9 => 9 | 66 => 152 | 70 => 156 | 76 => 165 | 77 => 166 | n => n, fun | n => n⟩
theorem sortFn0 : Go.Proofs.SlLaysF0.n6 Tryz.prog sortFn0_ren := {
  mixed := by kernel_rfl
  f6 := ⟨Tryz.f25.name, by decide, Tryz.func25.trans (congrArg some (by kernel_rfl))⟩
  f14 := ⟨Tryz.f55.name, by decide, Tryz.func55.trans (congrArg some (by kernel_rfl))⟩
  f15 := Tryz.func56.trans (congrArg some (by kernel_rfl))
  f20 := ⟨Tryz.f85.name, by decide, Tryz.func85.trans (congrArg some (by kernel_rfl))⟩
  f21 := ⟨Tryz.f86.name, by decide, Tryz.func86.trans (congrArg some (by kernel_rfl))⟩
  f22 := ⟨Tryz.f87.name, by decide, Tryz.func87.trans (congrArg some (by kernel_rfl))⟩
  f23 := ⟨Tryz.f88.name, by decide, Tryz.func88.trans (congrArg some (by kernel_rfl))⟩
  f24 := ⟨Tryz.f89.name, by decide, Tryz.func89.trans (congrArg some (by kernel_rfl))⟩
  f25 := ⟨Tryz.f90.name, by decide, Tryz.func90.trans (congrArg some (by kernel_rfl))⟩
  f26 := ⟨Tryz.f91.name, by decide, Tryz.func91.trans (congrArg some (by kernel_rfl))⟩
  f27 := ⟨Tryz.f92.name, by decide, Tryz.func92.trans (congrArg some (by kernel_rfl))⟩
  f28 := Tryz.func93.trans (congrArg some (by kernel_rfl))
  f29 := Tryz.func94.trans (congrArg some (by kernel_rfl))
  f46 := ⟨Tryz.f122.name, by decide, Tryz.func122.trans (congrArg some (by kernel_rfl))⟩
  f47 := Tryz.func123.trans (congrArg some (by kernel_rfl))
  f48 := Tryz.func124.trans (congrArg some (by kernel_rfl))
  f49 := ⟨Tryz.f125.name, by decide, Tryz.func125.trans (congrArg some (by kernel_rfl))⟩
  f50 := ⟨Tryz.f126.name, by decide, Tryz.func126.trans (congrArg some (by kernel_rfl))⟩
  f57 := ⟨Tryz.f138.name, by decide, Tryz.func138.trans (congrArg some (by kernel_rfl))⟩
  t0 := Tryz.underlying0
  a0 := Tryz.isAgg0
  z0 := Tryz.sizeOf0
  v0 := Tryz.zeroValue0
  t3 := Tryz.underlying3
  a3 := Tryz.isAgg3
  z3 := Tryz.sizeOf3
  v3 := Tryz.zeroValue3
  t4 := Tryz.underlying4
  a4 := Tryz.isAgg4
  z4 := Tryz.sizeOf4
  v4 := Tryz.zeroValue4
  t5 := Tryz.underlying5
  a5 := Tryz.isAgg5
  z5 := Tryz.sizeOf5
  v5 := Tryz.zeroValue5
  t9 := Tryz.underlying9
  a9 := Tryz.isAgg9
  z9 := Tryz.sizeOf9
  v9 := Tryz.zeroValue9
  t22 := Tryz.underlying28
  a22 := Tryz.isAgg28
  z22 := Tryz.sizeOf28
  v22 := Tryz.zeroValue28
  t25 := Tryz.underlying66
  a25 := Tryz.isAgg66
  z25 := Tryz.sizeOf66
  v25 := Tryz.zeroValue66
  t39 := Tryz.underlying92
  a39 := Tryz.isAgg92
  z39 := Tryz.sizeOf92
  v39 := Tryz.zeroValue92
  t45 := Tryz.underlying119
  a45 := Tryz.isAgg119
  z45 := Tryz.sizeOf119
  v45 := Tryz.zeroValue119
  t46 := Tryz.underlying120
  a46 := Tryz.isAgg120
  z46 := Tryz.sizeOf120
  v46 := Tryz.zeroValue120
  t50 := Tryz.underlying124
  a50 := Tryz.isAgg124
  z50 := Tryz.sizeOf124
  v50 := Tryz.zeroValue124
  t53 := Tryz.underlying23
  a53 := Tryz.isAgg23
  z53 := Tryz.sizeOf23
  v53 := Tryz.zeroValue23
  t55 := Tryz.underlying40
  a55 := Tryz.isAgg40
  z55 := Tryz.sizeOf40
  v55 := Tryz.zeroValue40
  t66 := Tryz.underlying152
  a66 := Tryz.isAgg152
  z66 := Tryz.sizeOf152
  v66 := Tryz.zeroValue152
  t70 := Tryz.underlying156
  a70 := Tryz.isAgg156
  z70 := Tryz.sizeOf156
  v70 := Tryz.zeroValue156
  t76 := Tryz.underlying165
  a76 := Tryz.isAgg165
  z76 := Tryz.sizeOf165
  v76 := Tryz.zeroValue165
  t77 := Tryz.underlying166
  a77 := Tryz.isAgg166
  z77 := Tryz.sizeOf166
  v77 := Tryz.zeroValue166 }
def lays189_ren : Go.Shelf.Ren := ⟨fun | 189 => 31 | 125 => 56 | 257 => 58 | 128 => 93 | 129 => 94 | 294 => 95 | 295 => 96 | 296 => 97 | 297 => 98 | 298 => 99 | 299 => 100 | 216 => 101 | 300 => 102 | 301 => 103 | 328 => 127 | 329 => 123 | 330 => 124 | 331 => 128 | 332 => 129 | 215 => 57 | 343 => 139 | n => n, fun | 28 => 28 | 3 => 3 | 46 => 92 | 0 => 0 | 51 => 23 | 53 => 40 | 4 => 4 | 183 => 120 | 182 => 119 | 131 => 124 | 5 => 5 | 9 => 9 | 218 => 152 | 222 => 156 | 228 => 165 | 229 => 166 | n => n, fun | n => n⟩
theorem lays189 : Go.Proofs.Lays.n189 Tryz.prog lays189_ren := {
  mixed := by kernel_rfl
  f125 := Tryz.func56.trans (congrArg some (by kernel_rfl))
  f128 := Tryz.func93.trans (congrArg some (by kernel_rfl))
  f129 := Tryz.func94.trans (congrArg some (by kernel_rfl))
  f189 := Tryz.func31.trans (congrArg some (by kernel_rfl))
  f215 := Tryz.func57.trans (congrArg some (by kernel_rfl))
  f216 := Tryz.func101.trans (congrArg some (by kernel_rfl))
  f257 := Tryz.func58.trans (congrArg some (by kernel_rfl))
  f294 := Tryz.func95.trans (congrArg some (by kernel_rfl))
  f295 := Tryz.func96.trans (congrArg some (by kernel_rfl))
  f296 := Tryz.func97.trans (congrArg some (by kernel_rfl))
  f297 := Tryz.func98.trans (congrArg some (by kernel_rfl))
  f298 := Tryz.func99.trans (congrArg some (by kernel_rfl))
  f299 := Tryz.func100.trans (congrArg some (by kernel_rfl))
  f300 := Tryz.func102.trans (congrArg some (by kernel_rfl))
  f301 := Tryz.func103.trans (congrArg some (by kernel_rfl))
  f328 := Tryz.func127.trans (congrArg some (by kernel_rfl))
  f329 := Tryz.func123.trans (congrArg some (by kernel_rfl))
  f330 := Tryz.func124.trans (congrArg some (by kernel_rfl))
  f331 := Tryz.func128.trans (congrArg some (by kernel_rfl))
  f332 := Tryz.func129.trans (congrArg some (by kernel_rfl))
  f343 := Tryz.func139.trans (congrArg some (by kernel_rfl))
  t0 := Tryz.underlying0
  a0 := Tryz.isAgg0
  z0 := Tryz.sizeOf0
  v0 := Tryz.zeroValue0
  t3 := Tryz.underlying3
  a3 := Tryz.isAgg3
  z3 := Tryz.sizeOf3
  v3 := Tryz.zeroValue3
  t4 := Tryz.underlying4
  a4 := Tryz.isAgg4
  z4 := Tryz.sizeOf4
  v4 := Tryz.zeroValue4
  t5 := Tryz.underlying5
  a5 := Tryz.isAgg5
  z5 := Tryz.sizeOf5
  v5 := Tryz.zeroValue5
  t9 := Tryz.underlying9
  a9 := Tryz.isAgg9
  z9 := Tryz.sizeOf9
  v9 := Tryz.zeroValue9
  t28 := Tryz.underlying28
  a28 := Tryz.isAgg28
  z28 := Tryz.sizeOf28
  v28 := Tryz.zeroValue28
  t46 := Tryz.underlying92
  a46 := Tryz.isAgg92
  z46 := Tryz.sizeOf92
  v46 := Tryz.zeroValue92
  t51 := Tryz.underlying23
  a51 := Tryz.isAgg23
  z51 := Tryz.sizeOf23
  v51 := Tryz.zeroValue23
  t53 := Tryz.underlying40
  a53 := Tryz.isAgg40
  z53 := Tryz.sizeOf40
  v53 := Tryz.zeroValue40
  t131 := Tryz.underlying124
  a131 := Tryz.isAgg124
  z131 := Tryz.sizeOf124
  v131 := Tryz.zeroValue124
  t182 := Tryz.underlying119
  a182 := Tryz.isAgg119
  z182 := Tryz.sizeOf119
  v182 := Tryz.zeroValue119
  t183 := Tryz.underlying120
  a183 := Tryz.isAgg120
  z183 := Tryz.sizeOf120
  v183 := Tryz.zeroValue120
  t218 := Tryz.underlying152
  a218 := Tryz.isAgg152
  z218 := Tryz.sizeOf152
  v218 := Tryz.zeroValue152
  t222 := Tryz.underlying156
  a222 := Tryz.isAgg156
  z222 := Tryz.sizeOf156
  v222 := Tryz.zeroValue156
  t228 := Tryz.underlying165
  a228 := Tryz.isAgg165
  z228 := Tryz.sizeOf165
  v228 := Tryz.zeroValue165
  t229 := Tryz.underlying166
  a229 := Tryz.isAgg166
  z229 := Tryz.sizeOf166
  v229 := Tryz.zeroValue166 }


theorem swo_fin (E : List Rat) (m : Nat) : SWO (ltOf (fun x y : Fin (m + 1) => cfN E x.val y.val)) := by
  refine ⟨fun x => ltN_irrefl E x.val, fun x y z => ltN_trans E x.val y.val z.val, fun x y z => ltN_ntrans E x.val y.val z.val⟩
theorem C_SortFunc (E : List Rat) (ad : Option Addr) (c b0 : Nat) (hE : ∀ x ∈ E, lenQ x ≤ 1000) (hn : E.length ≤ 1000000) (b cap : Nat) (l : List Nat) (hl : ∀ i ∈ l, i < E.length) (hll : l.length ≤ 1000000) (σ : List (Nat × Obj)) :
    CtrM Tryz.prog 25 [.slice (some ⟨b, 0, none⟩) l.length cap, .func (.func 26) #[] #[.pointer (some ⟨b0, 0, none⟩)]] ((b, .cells (List.map encn l).toArray 3 (0, 0)) :: σ)
      [Row (some ⟨b0, 0, none⟩) [.slice ad E.length c], Row ad (cellsOf encQ E)]
      (fun v σ' Ψ => v = .tuple #[] ∧ σ' = (b, .cells (List.map encn (l.mergeSort fun x y => !ltN E y x)).toArray 3 (0, 0)) :: σ ∧ Ψ = [Row (some ⟨b0, 0, none⟩) [.slice ad E.length c], Row ad (cellsOf encQ E)]) := by
  rcases Nat.eq_zero_or_pos E.length with h0 | h0
  · have hl0 : l = [] := List.eq_nil_iff_forall_not_mem.2 (fun i hi => by have := hl i hi; omega)
    subst hl0
    intro S w0 w hS hm
    refine (AnyF.slices_SortFunc_none sortFn0 (some ⟨b, 0, none⟩) cap (.func (.func 26) #[] #[.pointer (some ⟨b0, 0, none⟩)]) w).mono ?_
    rintro e w' ⟨he, hw⟩
    subst hw
    exact ⟨_, _, _, he, ⟨rfl, by rw [List.mergeSort_nil], rfl⟩, hm⟩
  · obtain ⟨m, hm⟩ : ∃ m, E.length = m + 1 := ⟨E.length - 1, by omega⟩
    have hv : (l.map (Fin.ofNat (m + 1))).map Fin.val = l := by
      rw [List.map_map]
      conv => rhs; rw [← List.map_id l]
      refine List.map_congr_left (fun i hi => ?_)
      show i % (m + 1) = i
      exact Nat.mod_eq_of_lt (by have := hl i hi; omega)
    have hlen : (l.map (Fin.ofNat (m + 1))).length = l.length := by simp
    have he : (l.map (Fin.ofNat (m + 1))).map (fun x : Fin (m + 1) => encn x.val) = List.map encn l := by
      conv => rhs; rw [← hv]
      simp only [List.map_map]; rfl
    have h := ctr_sortFunc (P := Tryz.prog) (α := Fin (m + 1)) (enc := fun x => encn x.val) (σ := σ) (Φ := [Row (some ⟨b0, 0, none⟩) [.slice ad E.length c], Row ad (cellsOf encQ E)]) sortFn (fun _ => rfl) (fun x y => cfN E x.val y.val) (swo_fin E m)
      (fun x y h1 h2 => Fin.ext (ltN_total E x.val y.val h1 h2)) (g := 26) (cb := #[.pointer (some ⟨b0, 0, none⟩)]) Tryz.call26
      (fun x y => C_order E ad c x.val y.val b0 0 (by omega) (by omega) hE) b cap 3 (l.map (Fin.ofNat (m + 1))) [] (by omega)
    have e2 : ((l.map (Fin.ofNat (m + 1))).mergeSort (fun x y => !(ltOf fun x y : Fin (m + 1) => cfN E x.val y.val) y x)).map (fun x : Fin (m + 1) => encn x.val) = List.map encn (l.mergeSort fun x y => !ltN E y x) := by
      have e3 := List.map_mergeSort (r := fun x y => !(ltOf fun x y : Fin (m + 1) => cfN E x.val y.val) y x) (s := fun x y => !ltN E y x) (f := Fin.val) (l := l.map (Fin.ofNat (m + 1))) (fun a _ b _ => rfl)
      rw [hv] at e3
      rw [← e3, List.map_map]; rfl
    rw [List.append_nil, he, hlen] at h
    simp only [List.append_nil, e2] at h
    exact h
/-- slices.Sort of whole numbers in an own block. -/
theorem C_SortI (b cap : Nat) (l : List Nat) (R : List Value) (hn : l.length ≤ 1000000) (σ : List (Nat × Obj)) (Φ : List SPred) :
    CtrM Tryz.prog 31 [.slice (some ⟨b, 0, none⟩) l.length cap] ((b, .cells (List.map encn l ++ R).toArray 3 (0, 0)) :: σ) Φ
      (fun v σ' Ψ => v = .tuple #[] ∧ σ' = (b, .cells (List.map encn (l.mergeSort fun x y => decide (x ≤ y)) ++ R).toArray 3 (0, 0)) :: σ ∧ Ψ = Φ) := by
  intro S w0 w hS hm
  obtain ⟨X, _, h2, h3, h4⟩ := hm.facts
  have hbX : X b := h2 (b, _) (List.mem_cons_self ..)
  have hz : (l.map (fun k : Nat => (k : Int))).map (Value.int .i64) = List.map encn l := by rw [List.map_map]; rfl
  have hown := hm.own (b, _) (List.mem_cons_self ..)
  rw [← hz] at hm hown
  have h := Any.slices_Sort_int lays189 b 0 cap (l.map (fun k : Nat => (k : Int))) w (holds_own hown) (h3 b hbX) (by rw [List.length_map]; omega)
  rw [List.length_map] at h
  refine h.mono ?_
  rintro e w' ⟨he, n, os, hw⟩
  subst hw
  have hms : (l.map (fun k : Nat => (k : Int))).mergeSort (fun x y => decide (x ≤ y)) = (l.mergeSort fun x y => decide (x ≤ y)).map (fun k : Nat => (k : Int)) := by
    have e3 := List.map_mergeSort (r := fun x y : Nat => decide (x ≤ y)) (s := fun x y : Int => decide (x ≤ y)) (f := fun k : Nat => (k : Int)) (l := l) (fun a _ b _ => by simp)
    exact e3.symm
  have hm2 := mem_sorted (enc := Value.int .i64) (d := (l.map (fun k : Nat => (k : Int))).mergeSort (fun x y => decide (x ≤ y))) hS hm (by simp) n os
  refine ⟨_, _, _, he, ⟨rfl, rfl, rfl⟩, ?_⟩
  have e4 : (((l.map (fun k : Nat => (k : Int))).mergeSort (fun x y => decide (x ≤ y))).map (Value.int .i64)) = List.map encn (l.mergeSort fun x y => decide (x ≤ y)) := by rw [hms, List.map_map]; rfl
  rw [e4] at hm2
  exact hm2
end Go.Proofs.YtmajjidkkpkhcaaGreat
