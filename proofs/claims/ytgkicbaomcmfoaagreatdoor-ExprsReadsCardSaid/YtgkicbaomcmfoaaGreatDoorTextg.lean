/- Walks of functions. By an AI agent. -/
import Derived.Test.YtgkicbaomcmfoaaGreatDoorPolyt
import Derived.Test.YtgkicbaomcmfoaaGreatDoorFxV
import Derived.Shelf.Strconv.Itoa3
import Derived.Shelf.Strings.Repeat
import Derived.Shelf.Slices.ReverseS
set_option linter.unusedVariables false
set_option linter.unusedSimpArgs false
set_option maxRecDepth 4000
namespace Go.Proofs.YtgkicbaomcmfoaaGreatDoor
open Go Go.Proofs Go.Fx Go.Shelf Go.RowKit Go.Sort Tryz
def Zpa : Go.Shelf.Ren := ⟨fun | 171 => 80 | 243 => 120 | 246 => 167 | 283 => 182 | 284 => 183 | 285 => 184 | 286 => 185 | 129 => 181 | 317 => 218 | 318 => 219 | 319 => 220 | 320 => 221 | 337 => 231 | 338 => 232 | n => n, fun | 3 => 3 | 9 => 9 | 2 => 2 | 4 => 4 | 171 => 238 | 0 => 0 | 53 => 45 | 37 => 35 | 5 => 5 | 173 => 240 | 212 => 271 | 51 => 54 | 20 => 20 | 213 => 272 | 46 => 124 | 232 => 284 | 233 => 285 | n => n, fun | 17 => 2 | 18 => 5 | 19 => 6 | n => n⟩
theorem Qeh : Go.Proofs.LaysM.n171 Tryz.prog Zpa := {
 mixed := by kernel_rfl
 f129 := func181.trans (congrArg some kk)
 f171 := func80.trans (congrArg some kk)
 f243 := func120.trans (congrArg some kk)
 f246 := func167.trans (congrArg some kk)
 f283 := func182.trans (congrArg some kk)
 f284 := func183.trans (congrArg some kk)
 f285 := func184.trans (congrArg some kk)
 f286 := func185.trans (congrArg some kk)
 f317 := func218.trans (congrArg some kk)
 f318 := func219.trans (congrArg some kk)
 f319 := func220.trans (congrArg some kk)
 f320 := func221.trans (congrArg some kk)
 f337 := func231.trans (congrArg some kk)
 f338 := func232.trans (congrArg some kk)
 t0 := underlying0
 a0 := isAgg0
 z0 := sizeOf0
 v0 := zeroValue0
 t2 := underlying2
 a2 := isAgg2
 z2 := sizeOf2
 v2 := zeroValue2
 t3 := underlying3
 a3 := isAgg3
 z3 := sizeOf3
 v3 := zeroValue3
 t4 := underlying4
 a4 := isAgg4
 z4 := sizeOf4
 v4 := zeroValue4
 t5 := underlying5
 a5 := isAgg5
 z5 := sizeOf5
 v5 := zeroValue5
 t9 := underlying9
 a9 := isAgg9
 z9 := sizeOf9
 v9 := zeroValue9
 t20 := underlying20
 a20 := isAgg20
 z20 := sizeOf20
 v20 := zeroValue20
 t37 := underlying35
 a37 := isAgg35
 z37 := sizeOf35
 v37 := zeroValue35
 t46 := underlying124
 a46 := isAgg124
 z46 := sizeOf124
 v46 := zeroValue124
 t51 := underlying54
 a51 := isAgg54
 z51 := sizeOf54
 v51 := zeroValue54
 t53 := underlying45
 a53 := isAgg45
 z53 := sizeOf45
 v53 := zeroValue45
 t171 := underlying238
 a171 := isAgg238
 z171 := sizeOf238
 v171 := zeroValue238
 t173 := underlying240
 a173 := isAgg240
 z173 := sizeOf240
 v173 := zeroValue240
 t212 := underlying271
 a212 := isAgg271
 z212 := sizeOf271
 v212 := zeroValue271
 t213 := underlying272
 a213 := isAgg272
 z213 := sizeOf272
 t232 := underlying284
 a232 := isAgg284
 z232 := sizeOf284
 v232 := zeroValue284
 t233 := underlying285
 a233 := isAgg285
 z233 := sizeOf285
 v233 := zeroValue285
 g17 := by kernel_rfl
 g18 := by kernel_rfl
 g19 := by kernel_rfl
 i0 := by kernel_rfl
 i2 := by kernel_rfl
 i3 := by kernel_rfl
 i4 := by kernel_rfl
 i5 := by kernel_rfl
 i9 := by kernel_rfl
 i20 := by kernel_rfl
 i37 := by kernel_rfl
 i46 := by kernel_rfl
 i51 := by kernel_rfl
 i53 := by kernel_rfl
 i171 := by kernel_rfl
 i173 := by kernel_rfl
 i212 := by kernel_rfl
 i232 := by kernel_rfl
 i233 := by kernel_rfl
 m17 := by kernel_rfl
 m18 := by kernel_rfl
 m19 := by kernel_rfl }
def Zhy : Go.Shelf.Ren := ⟨fun | 105 => 95 | 212 => 136 | 99 => 137 | 165 => 77 | 166 => 78 | 170 => 138 | 169 => 79 | 263 => 186 | 264 => 127 | 206 => 187 | 240 => 118 | 241 => 119 | 276 => 165 | 277 => 166 | n => n, fun | 9 => 9 | 3 => 3 | 4 => 4 | 20 => 20 | 0 => 0 | 46 => 124 | 109 => 200 | 5 => 5 | 72 => 130 | 76 => 134 | 51 => 54 | 146 => 198 | 53 => 45 | 148 => 191 | 70 => 128 | 37 => 35 | 75 => 133 | 127 => 183 | 164 => 223 | 80 => 136 | n => n, fun | n => n⟩
theorem Zpc : Go.Proofs.Lays.n105 Tryz.prog Zhy := {
 mixed := by kernel_rfl
 f99 := func137.trans (congrArg some kk)
 f105 := func95.trans (congrArg some kk)
 f165 := func77.trans (congrArg some kk)
 f166 := func78.trans (congrArg some kk)
 f169 := func79.trans (congrArg some kk)
 f170 := func138.trans (congrArg some kk)
 f206 := func187.trans (congrArg some kk)
 f212 := func136.trans (congrArg some kk)
 f240 := func118.trans (congrArg some kk)
 f241 := func119.trans (congrArg some kk)
 f263 := func186.trans (congrArg some kk)
 f264 := func127.trans (congrArg some kk)
 f276 := func165.trans (congrArg some kk)
 f277 := func166.trans (congrArg some kk)
 t0 := underlying0
 a0 := isAgg0
 z0 := sizeOf0
 v0 := zeroValue0
 t3 := underlying3
 a3 := isAgg3
 z3 := sizeOf3
 v3 := zeroValue3
 t4 := underlying4
 a4 := isAgg4
 z4 := sizeOf4
 v4 := zeroValue4
 t5 := underlying5
 a5 := isAgg5
 z5 := sizeOf5
 v5 := zeroValue5
 t9 := underlying9
 a9 := isAgg9
 z9 := sizeOf9
 v9 := zeroValue9
 t20 := underlying20
 a20 := isAgg20
 z20 := sizeOf20
 v20 := zeroValue20
 t37 := underlying35
 a37 := isAgg35
 z37 := sizeOf35
 v37 := zeroValue35
 t46 := underlying124
 a46 := isAgg124
 z46 := sizeOf124
 v46 := zeroValue124
 t51 := underlying54
 a51 := isAgg54
 z51 := sizeOf54
 v51 := zeroValue54
 t53 := underlying45
 a53 := isAgg45
 z53 := sizeOf45
 v53 := zeroValue45
 t70 := underlying128
 a70 := isAgg128
 z70 := sizeOf128
 v70 := zeroValue128
 t72 := underlying130
 a72 := isAgg130
 z72 := sizeOf130
 v72 := zeroValue130
 t75 := underlying133
 a75 := isAgg133
 z75 := sizeOf133
 v75 := zeroValue133
 t76 := underlying134
 a76 := isAgg134
 z76 := sizeOf134
 v76 := zeroValue134
 t109 := underlying200
 a109 := isAgg200
 z109 := sizeOf200
 v109 := zeroValue200
 t127 := underlying183
 a127 := isAgg183
 z127 := sizeOf183
 v127 := zeroValue183
 t146 := underlying198
 a146 := isAgg198
 z146 := sizeOf198
 v146 := zeroValue198
 t148 := underlying191
 a148 := isAgg191
 z148 := sizeOf191
 v148 := zeroValue191
 t164 := underlying223
 a164 := isAgg223
 z164 := sizeOf223
 v164 := zeroValue223 }
def Ztf : Go.Shelf.Ren := ⟨fun | 17 => 96 | n => n, fun | 24 => 87 | 9 => 9 | 3 => 3 | 4 => 4 | 0 => 0 | n => n, fun | n => n⟩
theorem lays17 : Go.Proofs.Lays2.n17 Tryz.prog Ztf := {
 mixed := by kernel_rfl
 f17 := func96.trans (congrArg some kk)
 t0 := underlying0
 a0 := isAgg0
 z0 := sizeOf0
 v0 := zeroValue0
 t3 := underlying3
 a3 := isAgg3
 z3 := sizeOf3
 v3 := zeroValue3
 t4 := underlying4
 a4 := isAgg4
 z4 := sizeOf4
 v4 := zeroValue4
 t9 := underlying9
 a9 := isAgg9
 z9 := sizeOf9
 v9 := zeroValue9
 t24 := underlying87
 a24 := isAgg87
 z24 := sizeOf87
 v24 := zeroValue87 }
theorem xB105 : Builder.Extra Tryz.prog Zhy where
 sizeBuilder := by kernel_rfl
 liesBuilder := by kernel_rfl
 t5 := underlying5
 a5 := isAgg5
 z5 := sizeOf5
 v5 := zeroValue5
 infoByte := by kernel_rfl
 cellsByte := by kernel_rfl
 sizeByte := by kernel_rfl
 neB5 := by decide
theorem Qgc (n : Nat) (hn : n < 9223372036854775808) : Gn Tryz.prog 80 [.int .i64 (n : Int)] [TabF] (.string (dB n)) := by
 intro X w hX hΦ
 obtain ⟨g, hg, _, _, ht⟩ := hΦ TabF (List.Mem.head _)
 refine (Any.strconv_Itoa Qeh (n : Int) oo oo w ht).mono ?_
 rintro e w' ⟨he, k, os, hw⟩
 subst hw
 have e2 : Lib.itoa (n : Int) = Lib.decDigits n := by unfold Lib.itoa; rw [if_neg oo, Int.toNat_natCast]
 rw [e2] at he
 exact ⟨_, [], he, ⟨rfl, rfl⟩, below_grow w k os, fun _ h => nomatch h⟩
def zerB (k : Nat) : ByteArray := ⟨(List.replicate k 48).toArray⟩
theorem Zt8 (k : Nat) : (zerB k).size = k := by show (List.replicate k (48 : UInt8)).toArray.size = k; simp
theorem rep48 (k : Nat) : Lib.repeatL (ByteArray.mk #[48]).data.toList k = List.replicate k 48 := by
 have h := Lib.repeatL_replicate 48 1 k
 rw [Nat.mul_one] at h; exact h
theorem Qbl (k : Nat) (hk : k ≤ 1000) : Xl Tryz.prog 95 [.string ⟨#[48]⟩, .int .i64 (k : Int)] (.string (zerB k)) := by
 intro X w hX _
 match k, hk with
 | 0, _ =>
  refine (Any.strings_Repeat_zero Zpc ⟨#[48]⟩ w).mono ?_
  rintro e w' ⟨he, hw⟩
  subst hw
  exact ⟨_, [], he, ⟨rfl, rfl⟩, Below.refl _ _, by simp⟩
 | 1, _ =>
  refine (Any.strings_Repeat_one Zpc ⟨#[48]⟩ w).mono ?_
  rintro e w' ⟨he, hw⟩
  subst hw
  exact ⟨_, [], he, ⟨rfl, rfl⟩, Below.refl _ _, by simp⟩
 | k + 2, hk =>
  refine (Any.strings_Repeat_main Zpc xB105 ⟨#[48]⟩ (k + 2) w oo oo (by show 1 * (k + 2) ≤ _; omega) dd).mono ?_
  rintro e w' ⟨he, hw⟩
  rw [rep48] at he
  exact ⟨_, [], he, ⟨rfl, rfl⟩, hw, by simp⟩
theorem Zyp (b cap : Nat) (l : List ByteArray) (R : List Value) (hn : l.length ≤ 1000000000000) (σ : List (Nat × Obj)) (Φ : List Zp) :
  Znv Tryz.prog 96 [.slice (some ⟨b, 0, none⟩) l.length cap] ((b, .cells (List.map encs l ++ R).toArray 9 (0, 0)) :: σ) Φ
   (fun v σ' Ψ => v = .tuple #[] ∧ σ' = (b, .cells (List.map encs l.reverse ++ R).toArray 9 (0, 0)) :: σ ∧ Ψ = Φ) := by
 intro S w0 w hS hm
 obtain ⟨X, _, h2, h3, h4⟩ := hm.facts
 have hz : ∀ l : List ByteArray, (l.map (·.data.toList)).map encStr = List.map encs l := fun l => by rw [List.map_map]; rfl
 have hown := hm.own (b, _) (List.mem_cons_self ..)
 rw [← hz] at hm hown
 have h := Any.slices_Reverse_string lays17 b 0 cap (l.map (·.data.toList)) w (Zh1 hown) (by rw [List.length_map]; omega)
 rw [List.length_map] at h
 refine h.mono ?_
 rintro e w' ⟨he, n, hw⟩
 subst hw
 have hr := mem_sorted (enc := encStr) (d := (l.map (·.data.toList)).reverse) hS hm ss n #[]
 rw [← List.map_reverse, hz] at hr
 refine ⟨_, _, _, he, ⟨rfl, rfl, rfl⟩, ?_⟩
 have e3 : putRow encStr (Sort.ahead w n) b 0 (l.map (·.data.toList)).reverse.toArray = sortWorld encStr w b 0 n (l.map (·.data.toList)).reverse.toArray #[] := by
  have hg : ∀ W : World, Sort.grow W #[] = W := fun W => by cases W; simp [Sort.grow]
  unfold sortWorld; rw [hg]
 rw [e3, ← List.map_reverse]
 exact hr
end Go.Proofs.YtgkicbaomcmfoaaGreatDoor
