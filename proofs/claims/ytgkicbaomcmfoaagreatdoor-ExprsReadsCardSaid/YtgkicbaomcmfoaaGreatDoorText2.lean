/- Walks of functions. By an AI agent. -/
import Derived.Test.YtgkicbaomcmfoaaGreatDoorNegi
import Derived.Shelf.Strconv.Itoa2
import Derived.Shelf.LaysM
import Derived.Shelf.Strconv.Itoa1
import Derived.Lib.Walk
import Derived.Lib.ItoaMem
import Derived.WalkKit
import Derived.BigCall
import Derived.BigGuard
set_option linter.unusedVariables false
set_option linter.unusedSimpArgs false
set_option maxRecDepth 4000
namespace Go.Proofs.YtgkicbaomcmfoaaGreatDoor
open Go Go.Proofs Go.Fx Go.Shelf Go.RowKit Go.Sort Tryz
def Zo9 : Go.Shelf.Ren := ⟨fun | 284 => 183 | 129 => 181 | 317 => 218 | 318 => 219 | n => n, fun | 53 => 45 | 3 => 3 | 212 => 271 | 0 => 0 | 4 => 4 | 46 => 124 | 5 => 5 | 9 => 9 | n => n, fun | 17 => 2 | n => n⟩
theorem Qeg : Go.Proofs.LaysM.n284 Tryz.prog Zo9 := {
 mixed := by kernel_rfl
 f129 := func181.trans (congrArg some kk)
 f284 := func183.trans (congrArg some kk)
 f317 := func218.trans (congrArg some kk)
 f318 := func219.trans (congrArg some kk)
 t0 := underlying0
 a0 := isAgg0
 z0 := sizeOf0
 v0 := zeroValue0
 t3 := underlying3
 a3 := isAgg3
 z3 := sizeOf3
 v3 := zeroValue3
 t4 := underlying4
 a4 := isAgg4
 z4 := sizeOf4
 v4 := zeroValue4
 t5 := underlying5
 a5 := isAgg5
 z5 := sizeOf5
 v5 := zeroValue5
 t9 := underlying9
 a9 := isAgg9
 z9 := sizeOf9
 v9 := zeroValue9
 t46 := underlying124
 a46 := isAgg124
 z46 := sizeOf124
 v46 := zeroValue124
 t53 := underlying45
 a53 := isAgg45
 z53 := sizeOf45
 v53 := zeroValue45
 t212 := underlying271
 a212 := isAgg271
 z212 := sizeOf271
 v212 := zeroValue271
 g17 := by kernel_rfl
 i0 := by kernel_rfl
 i3 := by kernel_rfl
 i4 := by kernel_rfl
 i5 := by kernel_rfl
 i9 := by kernel_rfl
 i46 := by kernel_rfl
 i53 := by kernel_rfl
 i212 := by kernel_rfl
 m17 := by kernel_rfl }
def Zo8 : Go.Shelf.Ren := ⟨fun | 285 => 184 | n => n, fun | 37 => 35 | 53 => 45 | 3 => 3 | 4 => 4 | 51 => 54 | 9 => 9 | 5 => 5 | 0 => 0 | n => n, fun | n => n⟩
theorem Qef : Go.Proofs.Lays.n285 Tryz.prog Zo8 := {
 mixed := by kernel_rfl
 f285 := func184.trans (congrArg some kk)
 t0 := underlying0
 a0 := isAgg0
 z0 := sizeOf0
 v0 := zeroValue0
 t3 := underlying3
 a3 := isAgg3
 z3 := sizeOf3
 v3 := zeroValue3
 t4 := underlying4
 a4 := isAgg4
 z4 := sizeOf4
 v4 := zeroValue4
 t5 := underlying5
 a5 := isAgg5
 z5 := sizeOf5
 v5 := zeroValue5
 t9 := underlying9
 a9 := isAgg9
 z9 := sizeOf9
 v9 := zeroValue9
 t37 := underlying35
 a37 := isAgg35
 z37 := sizeOf35
 v37 := zeroValue35
 t51 := underlying54
 a51 := isAgg54
 z51 := sizeOf54
 v51 := zeroValue54
 t53 := underlying45
 a53 := isAgg45
 z53 := sizeOf45
 v53 := zeroValue45 }
abbrev u8v : UInt8 → Value := fun b => Value.int .u8 (b.toNat : Int)
theorem holds_zero0 (w : World) (T : TypeId) (nd : Nat) (hs : nd ≤ 24) : Holds u8v (w.alloc (.cells Lib.zeros24 T)) w.heap.size 0 (Array.replicate nd (0 : UInt8)) := fun j hj => by
 have hj' : j < nd := by simpa using hj
 refine ⟨?_, World.frozen?_alloc_new _ _ _ _⟩
 rw [World.cell?_alloc_new, Lib.zeros24_at _ oo, getElem!_pos _ j hj]
 simp
theorem Qal (w : World) (o : Obj) (dk : Array UInt8) (k : Nat) : ∃ os, (putRow u8v (w.alloc o) w.heap.size 0 dk).drewN k = grow (w.drewN k) os := by
 rw [alloc_eq_grow]
 obtain ⟨os', _, e⟩ := putRow_grow_new u8v w #[o] w.heap.size 0 dk (Nat.le_refl _)
 exact ⟨os', by rw [e]; rfl⟩
set_option maxHeartbeats 6400000 in
set_option maxRecDepth 100000 in
theorem K_FU (u : Nat) (hu : 100 ≤ u) (hu64 : u < 18446744073709551616) (w : World) (htab : Lib.TabIs Tryz.prog w "internal/strconv.uint64pow10" .u64 Lib.pow10Tab) :
  Calls Tryz.prog 134 #[.int .u64 u, .int .i64 10] w fun e w' => e = .returned (.string ⟨(Lib.decDigits u).toArray⟩) ∧ ∃ k os, w' = grow (w.drewN k) os := by
 have e284 : ∀ args w, (callFunc 183 args).run Tryz.prog w = .ok (.enter 183 args) w := call183
 have e285 : ∀ args w, (callFunc 184 args).run Tryz.prog w = .ok (.enter 184 args) w := call184
 have hu1 : 1 ≤ u := oo
 have hnd20 : Lib.nDigits u ≤ 20 := by have := Lib.numDigits_eq u hu1 hu64; split at this <;> omega
 have hb3 : Lib.nDigits u ≤ 23 := oo
 have hnot : ¬ ((u : Int) < 100) := oo
 have hal : Tryz.prog.arrayLen 238 = 24 := by simp [Program.arrayLen]
 have hsl1 : ∀ W, (Instr.sliceAt 238 (.pointer (some ⟨w.heap.size, 0, none⟩)) none (some (.int .i64 (Lib.nDigits u : Int))) none).run Tryz.prog W = .ok (.slice (some ⟨w.heap.size, 0, none⟩) (Lib.nDigits u) 24) W := fun W => by
  rw [run_sliceAt_array_h W 238 ⟨w.heap.size, 0, none⟩ (by simp [Program.arrayLen, Program.elem]) .i64 (Lib.nDigits u : Int) oo (by rw [hal]; omega)]
  go_simp
  try omega
 have hH0 := holds_zero0 w 238 (Lib.nDigits u) oo
 have hfmt := Any.internal_strconv_formatBase10 Qef w.heap.size 0 24 u (Array.replicate (Lib.nDigits u) 0) (w.alloc (.cells Lib.zeros24 238)) hH0 (by rw [Array.size_replicate]; exact Lib.lt_pow_nDigits u) hu64 (by rw [Array.size_replicate]; omega)
 rw [Array.size_replicate] at hfmt
 have HH0 := Lib.hid hH0
 clear hH0 hal
 go_enter func134, ntmps134
 go_wp2_with (first
  | (go_at_call 183; refine (Any.internal_strconv_numDigits Qeg u hu1 hu64 _ (Lib.tabIs_alloc htab _)).mono ?_; rintro e w' ⟨rfl, rfl⟩))
 go_at_call 184
 refine hfmt.mono ?_
 rintro e w' ⟨rfl, k, v', dk, rfl, hF⟩
 have hcv : (convert 35 9 (.slice (some ⟨w.heap.size, 0, none⟩) (Lib.nDigits u) 24)).run Tryz.prog ((putRow u8v (w.alloc (.cells Lib.zeros24 238)) w.heap.size 0 dk).drewN k) = .ok (.string ⟨(Lib.decDigits u).toArray⟩) ((putRow u8v (w.alloc (.cells Lib.zeros24 238)) w.heap.size 0 dk).drewN k) := by
  have h := run_convert_bytes_back (P := Tryz.prog) ((putRow u8v (w.alloc (.cells Lib.zeros24 238)) w.heap.size 0 dk).drewN k) 35 9 5 ⟨w.heap.size, 0, none⟩ 24 (Lib.decDigits u) underlying35 underlying5 underlying9 (fun j hj => by
   rw [Lib.row_is_numeral hF j hj, Lib.add_plain, World.cell?_drewN]
   exact cell?_putRow u8v _ w.heap.size 0 _ dk HH0.out (by rw [hF.size, Array.size_replicate]) j (by rw [hF.size]; rw [Lib.decDigits_length] at hj; exact hj))
  rw [Lib.decDigits_length] at h
  exact h
 go_wp2
 go_ret
 obtain ⟨os, eo⟩ := Qal w (.cells Lib.zeros24 238) dk k
 exact ⟨rfl, k, os, eo⟩
end Go.Proofs.YtgkicbaomcmfoaaGreatDoor
