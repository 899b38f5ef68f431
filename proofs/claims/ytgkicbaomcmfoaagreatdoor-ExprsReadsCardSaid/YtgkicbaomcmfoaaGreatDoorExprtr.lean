/- Walks of functions. By an AI agent. -/
import Derived.Test.YtgkicbaomcmfoaaGreatDoorExpru
import Derived.Shelf.Strings.Trim
import Derived.Lib.Walk
import Derived.WalkKit
import Derived.BigCall
import Derived.BigGuard
set_option linter.unusedVariables false
set_option linter.unusedSimpArgs false
set_option maxRecDepth 4000
namespace Go.Proofs.YtgkicbaomcmfoaaGreatDoor
open Go Go.Proofs Go.Fx Go.Shelf Go.RowKit Go.Sort Tryz
def Zpb : Go.Shelf.Ren := ⟨fun | 162 => 34 | 232 => 66 | 227 => 67 | 234 => 68 | 236 => 69 | 228 => 109 | 271 => 110 | 151 => 111 | 120 => 156 | 197 => 157 | 152 => 158 | 260 => 202 | 137 => 203 | 119 => 204 | 224 => 205 | 225 => 206 | 217 => 228 | 266 => 234 | n => n, fun | 9 => 9 | 4 => 4 | 3 => 3 | 5 => 5 | 117 => 115 | 116 => 114 | 0 => 0 | 124 => 118 | 21 => 21 | 105 => 175 | 46 => 124 | 119 => 277 | 139 => 280 | 138 => 279 | n => n, fun | 3 => 3 | 4 => 4 | n => n⟩
theorem Qei : Go.Proofs.Lays.n162 Tryz.prog Zpb := {
 mixed := by kernel_rfl
 f119 := func204.trans (congrArg some kk)
 f120 := func156.trans (congrArg some kk)
 f137 := func203.trans (congrArg some kk)
 f151 := func111.trans (congrArg some kk)
 f152 := func158.trans (congrArg some kk)
 f162 := func34.trans (congrArg some kk)
 f197 := func157.trans (congrArg some kk)
 f217 := func228.trans (congrArg some kk)
 f224 := func205.trans (congrArg some kk)
 f225 := func206.trans (congrArg some kk)
 f227 := func67.trans (congrArg some kk)
 f228 := func109.trans (congrArg some kk)
 f232 := func66.trans (congrArg some kk)
 f234 := func68.trans (congrArg some kk)
 f236 := func69.trans (congrArg some kk)
 f260 := func202.trans (congrArg some kk)
 f266 := func234.trans (congrArg some kk)
 f271 := func110.trans (congrArg some kk)
 t0 := underlying0
 a0 := isAgg0
 z0 := sizeOf0
 v0 := zeroValue0
 t3 := underlying3
 a3 := isAgg3
 z3 := sizeOf3
 v3 := zeroValue3
 t4 := underlying4
 a4 := isAgg4
 z4 := sizeOf4
 v4 := zeroValue4
 t5 := underlying5
 a5 := isAgg5
 z5 := sizeOf5
 v5 := zeroValue5
 t9 := underlying9
 a9 := isAgg9
 z9 := sizeOf9
 v9 := zeroValue9
 t21 := underlying21
 a21 := isAgg21
 z21 := sizeOf21
 v21 := zeroValue21
 t46 := underlying124
 a46 := isAgg124
 z46 := sizeOf124
 v46 := zeroValue124
 t105 := underlying175
 a105 := isAgg175
 z105 := sizeOf175
 v105 := zeroValue175
 t116 := underlying114
 a116 := isAgg114
 z116 := sizeOf114
 t117 := underlying115
 a117 := isAgg115
 z117 := sizeOf115
 v117 := zeroValue115
 t119 := underlying277
 a119 := isAgg277
 z119 := sizeOf277
 t124 := underlying118
 a124 := isAgg118
 z124 := sizeOf118
 v124 := zeroValue118
 t138 := underlying279
 a138 := isAgg279
 z138 := sizeOf279
 v138 := zeroValue279
 t139 := underlying280
 a139 := isAgg280
 z139 := sizeOf280
 v139 := zeroValue280
 g3 := by kernel_rfl
 g4 := by kernel_rfl }
theorem Zgp (s : ByteArray) : ∀ n, Gx s n ≤ n
 | 0 => Nat.le_refl _
 | n + 1 => by
  rw [Gx]; split
  · have := Zgp s n; omega
  · exact Nat.le_refl _
theorem Zi3 (s : ByteArray) : ∀ n j, Gx s n ≤ j → j < n → chA s j = 32
 | 0, j, _, h => absurd h (Nat.not_lt_zero _)
 | n + 1, j, h1, h2 => by
  rw [Gx] at h1
  split at h1
  ·
   rename_i hc
   by_cases e : j = n
   · subst e; exact hc
   · exact Zi3 s n j h1 oo
  · omega
theorem Zi4 (s : ByteArray) : ∀ n, 0 < Gx s n → chA s (Gx s n - 1) ≠ 32
 | 0, h => absurd h (Nat.not_lt_zero _)
 | n + 1, h => by
  rw [Gx] at h ⊢
  split
  · rename_i hc; rw [if_pos hc] at h; exact Zi4 s n h
  · rename_i hc; exact hc
theorem Qda (s : ByteArray) : (⟨(Lib.trimRightB s.data.toList 32).toArray⟩ : ByteArray) = s.extract 0 (Gx s s.size) := by
 have hz : s.data.toList.length = s.size := rfl
 have hle := Zgp s s.size
 have hg : ∀ (j : Nat) b, s.data.toList[j]? = some b → chA s j = b.toNat := fun j b h => by unfold chA; simp [List.getD, h]
 rw [Lib.trimRightB_take s.data.toList 32 (Gx s s.size) oo (fun j b h1 h2 => by
   have hlt : j < s.size := by
    rcases Nat.lt_or_ge j s.data.toList.length with h' | h'
    · exact h'
    · simp [List.getElem?_eq_none h'] at h2
   have h3 := Zi3 s s.size j h1 hlt
   rw [hg j b h2] at h3
   exact UInt8.toNat_inj.1 h3) (fun b h0 h2 e => by
   have h3 := Zi4 s s.size h0
   rw [hg _ b h2, e] at h3
   exact h3 rfl)]
 apply ByteArray.ext
 rw [ByteArray.data_extract]
 apply Array.ext'
 rw [Array.toList_extract, List.extract_eq_take_drop]
 simp
theorem Qfz (s : ByteArray) (hs : s.size ≤ 9223372036854775807) : Xl Tryz.prog 34 [.string s, .string ⟨#[32]⟩] (.string (s.extract 0 (Gx s s.size))) := by
 intro X w _ _
 refine (Any.strings_TrimRight_one Qei s 32 dd w hs).mono ?_
 rintro e w' ⟨rfl, rfl⟩
 exact ⟨_, [], rfl, ⟨congrArg Value.string (Qda s), rfl⟩, Below.refl _ _, fun _ h => nomatch h⟩
end Go.Proofs.YtgkicbaomcmfoaaGreatDoor
