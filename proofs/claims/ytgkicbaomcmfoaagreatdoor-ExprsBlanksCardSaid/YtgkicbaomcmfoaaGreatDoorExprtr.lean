/- Written by a program of ours (gen.py) out of short specifications. By an AI agent. -/
import Derived.Test.YtgkicbaomcmfoaaGreatDoorExpru
import Derived.Shelf.Strings.Trim
import Derived.Lib.Walk
import Derived.WalkKit
import Derived.BigCall
import Derived.BigGuard
set_option linter.unusedVariables false
set_option linter.unusedSimpArgs false
set_option maxRecDepth 4000
namespace Go.Proofs.YtgkicbaomcmfoaaGreatDoor
open Go Go.Proofs Go.Fx Go.Shelf Go.RowKit Go.Sort
def lays162_ren : Go.Shelf.Ren := ⟨fun | 162 => 34 | 232 => 66 | 227 => 67 | 234 => 68 | 236 => 69 | 228 => 109 | 271 => 110 | 151 => 111 | 120 => 156 | 197 => 157 | 152 => 158 | 260 => 202 | 137 => 203 | 119 => 204 | 224 => 205 | 225 => 206 | 217 => 228 | 266 => 234 | n => n, fun | 9 => 9 | 4 => 4 | 3 => 3 | 5 => 5 | 117 => 115 | 116 => 114 | 0 => 0 | 124 => 118 | 21 => 21 | 105 => 175 | 46 => 124 | 119 => 277 | 139 => 280 | 138 => 279 | n => n, fun | 3 => 3 | 4 => 4 | n => n⟩
theorem lays162 : Go.Proofs.Lays.n162 Tryz.prog lays162_ren := {
  mixed := by kernel_rfl
  f119 := Tryz.func204.trans (congrArg some (by kernel_rfl))
  f120 := Tryz.func156.trans (congrArg some (by kernel_rfl))
  f137 := Tryz.func203.trans (congrArg some (by kernel_rfl))
  f151 := Tryz.func111.trans (congrArg some (by kernel_rfl))
  f152 := Tryz.func158.trans (congrArg some (by kernel_rfl))
  f162 := Tryz.func34.trans (congrArg some (by kernel_rfl))
  f197 := Tryz.func157.trans (congrArg some (by kernel_rfl))
  f217 := Tryz.func228.trans (congrArg some (by kernel_rfl))
  f224 := Tryz.func205.trans (congrArg some (by kernel_rfl))
  f225 := Tryz.func206.trans (congrArg some (by kernel_rfl))
  f227 := Tryz.func67.trans (congrArg some (by kernel_rfl))
  f228 := Tryz.func109.trans (congrArg some (by kernel_rfl))
  f232 := Tryz.func66.trans (congrArg some (by kernel_rfl))
  f234 := Tryz.func68.trans (congrArg some (by kernel_rfl))
  f236 := Tryz.func69.trans (congrArg some (by kernel_rfl))
  f260 := Tryz.func202.trans (congrArg some (by kernel_rfl))
  f266 := Tryz.func234.trans (congrArg some (by kernel_rfl))
  f271 := Tryz.func110.trans (congrArg some (by kernel_rfl))
  t0 := Tryz.underlying0
  a0 := Tryz.isAgg0
  z0 := Tryz.sizeOf0
  v0 := Tryz.zeroValue0
  t3 := Tryz.underlying3
  a3 := Tryz.isAgg3
  z3 := Tryz.sizeOf3
  v3 := Tryz.zeroValue3
  t4 := Tryz.underlying4
  a4 := Tryz.isAgg4
  z4 := Tryz.sizeOf4
  v4 := Tryz.zeroValue4
  t5 := Tryz.underlying5
  a5 := Tryz.isAgg5
  z5 := Tryz.sizeOf5
  v5 := Tryz.zeroValue5
  t9 := Tryz.underlying9
  a9 := Tryz.isAgg9
  z9 := Tryz.sizeOf9
  v9 := Tryz.zeroValue9
  t21 := Tryz.underlying21
  a21 := Tryz.isAgg21
  z21 := Tryz.sizeOf21
  v21 := Tryz.zeroValue21
  t46 := Tryz.underlying124
  a46 := Tryz.isAgg124
  z46 := Tryz.sizeOf124
  v46 := Tryz.zeroValue124
  t105 := Tryz.underlying175
  a105 := Tryz.isAgg175
  z105 := Tryz.sizeOf175
  v105 := Tryz.zeroValue175
  t116 := Tryz.underlying114
  a116 := Tryz.isAgg114
  z116 := Tryz.sizeOf114
  t117 := Tryz.underlying115
  a117 := Tryz.isAgg115
  z117 := Tryz.sizeOf115
  v117 := Tryz.zeroValue115
  t119 := Tryz.underlying277
  a119 := Tryz.isAgg277
  z119 := Tryz.sizeOf277
  t124 := Tryz.underlying118
  a124 := Tryz.isAgg118
  z124 := Tryz.sizeOf118
  v124 := Tryz.zeroValue118
  t138 := Tryz.underlying279
  a138 := Tryz.isAgg279
  z138 := Tryz.sizeOf279
  v138 := Tryz.zeroValue279
  t139 := Tryz.underlying280
  a139 := Tryz.isAgg280
  z139 := Tryz.sizeOf280
  v139 := Tryz.zeroValue280
  g3 := by kernel_rfl
  g4 := by kernel_rfl }
theorem trimE_le (s : ByteArray) : ∀ n, trimE s n ≤ n
  | 0 => Nat.le_refl _
  | n + 1 => by
    rw [trimE]; split
    · have := trimE_le s n; omega
    · exact Nat.le_refl _
theorem trimE_tail (s : ByteArray) : ∀ n j, trimE s n ≤ j → j < n → chA s j = 32
  | 0, j, _, h => absurd h (Nat.not_lt_zero _)
  | n + 1, j, h1, h2 => by
    rw [trimE] at h1
    split at h1
    · rename_i hc
      by_cases e : j = n
      · subst e; exact hc
      · exact trimE_tail s n j h1 (by omega)
    · omega
theorem trimE_last (s : ByteArray) : ∀ n, 0 < trimE s n → chA s (trimE s n - 1) ≠ 32
  | 0, h => absurd h (Nat.not_lt_zero _)
  | n + 1, h => by
    rw [trimE] at h ⊢
    split
    · rename_i hc; rw [if_pos hc] at h; exact trimE_last s n h
    · rename_i hc; exact hc
theorem trim_eq (s : ByteArray) : (⟨(Lib.trimRightB s.data.toList 32).toArray⟩ : ByteArray) = s.extract 0 (trimE s s.size) := by
  have hz : s.data.toList.length = s.size := rfl
  have hle := trimE_le s s.size
  have hg : ∀ (j : Nat) b, s.data.toList[j]? = some b → chA s j = b.toNat := fun j b h => by unfold chA; simp [List.getD, h]
  rw [Lib.trimRightB_take s.data.toList 32 (trimE s s.size) (by omega) (fun j b h1 h2 => by
      have hlt : j < s.size := by
        rcases Nat.lt_or_ge j s.data.toList.length with h' | h'
        · exact h'
        · simp [List.getElem?_eq_none h'] at h2
      have h3 := trimE_tail s s.size j h1 hlt
      rw [hg j b h2] at h3
      exact UInt8.toNat_inj.1 h3) (fun b h0 h2 e => by
      have h3 := trimE_last s s.size h0
      rw [hg _ b h2, e] at h3
      exact h3 rfl)]
  apply ByteArray.ext
  rw [ByteArray.data_extract]
  apply Array.ext'
  rw [Array.toList_extract, List.extract_eq_take_drop]
  simp
theorem C_TrimR (s : ByteArray) (hs : s.size ≤ 9223372036854775807) : CtrV Tryz.prog 34 [.string s, .string ⟨#[32]⟩] (.string (s.extract 0 (trimE s s.size))) := by
  intro X w _ _
  refine (Any.strings_TrimRight_one lays162 s 32 (by decide) w hs).mono ?_
  rintro e w' ⟨rfl, rfl⟩
  exact ⟨_, [], rfl, ⟨congrArg Value.string (trim_eq s), rfl⟩, Below.refl _ _, fun _ h => nomatch h⟩
end Go.Proofs.YtgkicbaomcmfoaaGreatDoor
