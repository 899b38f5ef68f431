/- Walks of functions. By an AI agent. -/
import Derived.Test.YtddhlkfpdjmplaaGreatDoorDig0
import Derived.Test.YtddhlkfpdjmplaaGreatDoorFxV
import Derived.Shelf.Strconv.Itoa3
import Derived.Shelf.Strings.Repeat
import Derived.Shelf.Slices.ReverseS
set_option linter.unusedVariables false
set_option linter.unusedSimpArgs false
set_option maxRecDepth 4000
namespace Go.Proofs.YtddhlkfpdjmplaaGreatDoor
open Go Go.Proofs Go.Fx Go.Shelf Go.RowKit Go.Sort Tryz
def Zp1 : Go.Shelf.Ren := ⟨fun | 171 => 149 | 243 => 195 | 246 => 223 | 283 => 224 | 284 => 225 | 285 => 226 | 286 => 227 | 129 => 220 | 317 => 240 | 318 => 241 | 319 => 242 | 320 => 243 | 337 => 246 | 338 => 247 | n => n, fun | 3 => 3 | 9 => 9 | 2 => 2 | 4 => 4 | 171 => 269 | 0 => 0 | 53 => 36 | 37 => 193 | 5 => 5 | 173 => 271 | 212 => 286 | 51 => 23 | 20 => 20 | 213 => 287 | 46 => 101 | 232 => 291 | 233 => 292 | n => n, fun | 17 => 2 | 18 => 3 | 19 => 4 | n => n⟩
theorem Qgg : Go.Proofs.LaysM.n171 Tryz.prog Zp1 := {
 mixed := by kernel_rfl
 f129 := func220.trans (congrArg some kk)
 f171 := func149.trans (congrArg some kk)
 f243 := func195.trans (congrArg some kk)
 f246 := func223.trans (congrArg some kk)
 f283 := func224.trans (congrArg some kk)
 f284 := func225.trans (congrArg some kk)
 f285 := func226.trans (congrArg some kk)
 f286 := func227.trans (congrArg some kk)
 f317 := func240.trans (congrArg some kk)
 f318 := func241.trans (congrArg some kk)
 f319 := func242.trans (congrArg some kk)
 f320 := func243.trans (congrArg some kk)
 f337 := func246.trans (congrArg some kk)
 f338 := func247.trans (congrArg some kk)
 t0 := underlying0
 a0 := isAgg0
 z0 := sizeOf0
 v0 := zeroValue0
 t2 := underlying2
 a2 := isAgg2
 z2 := sizeOf2
 v2 := zeroValue2
 t3 := underlying3
 a3 := isAgg3
 z3 := sizeOf3
 v3 := zeroValue3
 t4 := underlying4
 a4 := isAgg4
 z4 := sizeOf4
 v4 := zeroValue4
 t5 := underlying5
 a5 := isAgg5
 z5 := sizeOf5
 v5 := zeroValue5
 t9 := underlying9
 a9 := isAgg9
 z9 := sizeOf9
 v9 := zeroValue9
 t20 := underlying20
 a20 := isAgg20
 z20 := sizeOf20
 v20 := zeroValue20
 t37 := underlying193
 a37 := isAgg193
 z37 := sizeOf193
 v37 := zeroValue193
 t46 := underlying101
 a46 := isAgg101
 z46 := sizeOf101
 v46 := zeroValue101
 t51 := underlying23
 a51 := isAgg23
 z51 := sizeOf23
 v51 := zeroValue23
 t53 := underlying36
 a53 := isAgg36
 z53 := sizeOf36
 v53 := zeroValue36
 t171 := underlying269
 a171 := isAgg269
 z171 := sizeOf269
 v171 := zeroValue269
 t173 := underlying271
 a173 := isAgg271
 z173 := sizeOf271
 v173 := zeroValue271
 t212 := underlying286
 a212 := isAgg286
 z212 := sizeOf286
 v212 := zeroValue286
 t213 := underlying287
 a213 := isAgg287
 z213 := sizeOf287
 t232 := underlying291
 a232 := isAgg291
 z232 := sizeOf291
 v232 := zeroValue291
 t233 := underlying292
 a233 := isAgg292
 z233 := sizeOf292
 v233 := zeroValue292
 g17 := by kernel_rfl
 g18 := by kernel_rfl
 g19 := by kernel_rfl
 i0 := by kernel_rfl
 i2 := by kernel_rfl
 i3 := by kernel_rfl
 i4 := by kernel_rfl
 i5 := by kernel_rfl
 i9 := by kernel_rfl
 i20 := by kernel_rfl
 i37 := by kernel_rfl
 i46 := by kernel_rfl
 i51 := by kernel_rfl
 i53 := by kernel_rfl
 i171 := by kernel_rfl
 i173 := by kernel_rfl
 i212 := by kernel_rfl
 i232 := by kernel_rfl
 i233 := by kernel_rfl
 m17 := by kernel_rfl
 m18 := by kernel_rfl
 m19 := by kernel_rfl }
def Zi1 : Go.Shelf.Ren := ⟨fun | 105 => 169 | 212 => 201 | 99 => 202 | 165 => 146 | 166 => 147 | 170 => 203 | 169 => 148 | 263 => 228 | 264 => 187 | 206 => 229 | 240 => 193 | 241 => 194 | 276 => 221 | 277 => 222 | n => n, fun | 9 => 9 | 3 => 3 | 4 => 4 | 20 => 20 | 0 => 0 | 46 => 101 | 109 => 248 | 5 => 5 | 72 => 195 | 76 => 199 | 51 => 23 | 146 => 246 | 53 => 36 | 148 => 237 | 70 => 192 | 37 => 193 | 75 => 198 | 127 => 243 | 164 => 265 | 80 => 201 | n => n, fun | n => n⟩
theorem Zp2 : Go.Proofs.Lays.n105 Tryz.prog Zi1 := {
 mixed := by kernel_rfl
 f99 := func202.trans (congrArg some kk)
 f105 := func169.trans (congrArg some kk)
 f165 := func146.trans (congrArg some kk)
 f166 := func147.trans (congrArg some kk)
 f169 := func148.trans (congrArg some kk)
 f170 := func203.trans (congrArg some kk)
 f206 := func229.trans (congrArg some kk)
 f212 := func201.trans (congrArg some kk)
 f240 := func193.trans (congrArg some kk)
 f241 := func194.trans (congrArg some kk)
 f263 := func228.trans (congrArg some kk)
 f264 := func187.trans (congrArg some kk)
 f276 := func221.trans (congrArg some kk)
 f277 := func222.trans (congrArg some kk)
 t0 := underlying0
 a0 := isAgg0
 z0 := sizeOf0
 v0 := zeroValue0
 t3 := underlying3
 a3 := isAgg3
 z3 := sizeOf3
 v3 := zeroValue3
 t4 := underlying4
 a4 := isAgg4
 z4 := sizeOf4
 v4 := zeroValue4
 t5 := underlying5
 a5 := isAgg5
 z5 := sizeOf5
 v5 := zeroValue5
 t9 := underlying9
 a9 := isAgg9
 z9 := sizeOf9
 v9 := zeroValue9
 t20 := underlying20
 a20 := isAgg20
 z20 := sizeOf20
 v20 := zeroValue20
 t37 := underlying193
 a37 := isAgg193
 z37 := sizeOf193
 v37 := zeroValue193
 t46 := underlying101
 a46 := isAgg101
 z46 := sizeOf101
 v46 := zeroValue101
 t51 := underlying23
 a51 := isAgg23
 z51 := sizeOf23
 v51 := zeroValue23
 t53 := underlying36
 a53 := isAgg36
 z53 := sizeOf36
 v53 := zeroValue36
 t70 := underlying192
 a70 := isAgg192
 z70 := sizeOf192
 v70 := zeroValue192
 t72 := underlying195
 a72 := isAgg195
 z72 := sizeOf195
 v72 := zeroValue195
 t75 := underlying198
 a75 := isAgg198
 z75 := sizeOf198
 v75 := zeroValue198
 t76 := underlying199
 a76 := isAgg199
 z76 := sizeOf199
 v76 := zeroValue199
 t109 := underlying248
 a109 := isAgg248
 z109 := sizeOf248
 v109 := zeroValue248
 t127 := underlying243
 a127 := isAgg243
 z127 := sizeOf243
 v127 := zeroValue243
 t146 := underlying246
 a146 := isAgg246
 z146 := sizeOf246
 v146 := zeroValue246
 t148 := underlying237
 a148 := isAgg237
 z148 := sizeOf237
 v148 := zeroValue237
 t164 := underlying265
 a164 := isAgg265
 z164 := sizeOf265
 v164 := zeroValue265 }
def Zul : Go.Shelf.Ren := ⟨fun | 17 => 170 | n => n, fun | 24 => 132 | 9 => 9 | 3 => 3 | 4 => 4 | 0 => 0 | n => n, fun | n => n⟩
theorem lays17 : Go.Proofs.Lays2.n17 Tryz.prog Zul := {
 mixed := by kernel_rfl
 f17 := func170.trans (congrArg some kk)
 t0 := underlying0
 a0 := isAgg0
 z0 := sizeOf0
 v0 := zeroValue0
 t3 := underlying3
 a3 := isAgg3
 z3 := sizeOf3
 v3 := zeroValue3
 t4 := underlying4
 a4 := isAgg4
 z4 := sizeOf4
 v4 := zeroValue4
 t9 := underlying9
 a9 := isAgg9
 z9 := sizeOf9
 v9 := zeroValue9
 t24 := underlying132
 a24 := isAgg132
 z24 := sizeOf132
 v24 := zeroValue132 }
theorem xB105 : Builder.Extra Tryz.prog Zi1 where
 sizeBuilder := by kernel_rfl
 liesBuilder := by kernel_rfl
 t5 := underlying5
 a5 := isAgg5
 z5 := sizeOf5
 v5 := zeroValue5
 infoByte := by kernel_rfl
 cellsByte := by kernel_rfl
 sizeByte := by kernel_rfl
 neB5 := by decide
theorem Qig (n : Nat) (hn : n < 9223372036854775808) : Vj Tryz.prog 149 [.int .i64 (n : Int)] [TabF] (.string (dB n)) := by
 intro X w hX hΦ
 obtain ⟨g, hg, _, _, ht⟩ := hΦ TabF (List.Mem.head _)
 refine (Any.strconv_Itoa Qgg (n : Int) oo oo w ht).mono ?_
 rintro e w' ⟨he, k, os, hw⟩
 subst hw
 have e2 : Lib.itoa (n : Int) = Lib.decDigits n := by unfold Lib.itoa; rw [if_neg oo, Int.toNat_natCast]
 rw [e2] at he
 exact ⟨_, [], he, ⟨rfl, rfl⟩, below_grow w k os, fun _ h => nomatch h⟩
def zerB (k : Nat) : ByteArray := ⟨(List.replicate k 48).toArray⟩
theorem Zve (k : Nat) : (zerB k).size = k := by show (List.replicate k (48 : UInt8)).toArray.size = k; simp
theorem rep48 (k : Nat) : Lib.repeatL (ByteArray.mk #[48]).data.toList k = List.replicate k 48 := by
 have h := Lib.repeatL_replicate 48 1 k
 rw [Nat.mul_one] at h; exact h
theorem Qdb (k : Nat) (hk : k ≤ 1000) : Ys Tryz.prog 169 [.string ⟨#[48]⟩, .int .i64 (k : Int)] (.string (zerB k)) := by
 intro X w hX _
 match k, hk with
 | 0, _ =>
  refine (Any.strings_Repeat_zero Zp2 ⟨#[48]⟩ w).mono ?_
  rintro e w' ⟨he, hw⟩
  subst hw
  exact ⟨_, [], he, ⟨rfl, rfl⟩, Below.refl _ _, by simp⟩
 | 1, _ =>
  refine (Any.strings_Repeat_one Zp2 ⟨#[48]⟩ w).mono ?_
  rintro e w' ⟨he, hw⟩
  subst hw
  exact ⟨_, [], he, ⟨rfl, rfl⟩, Below.refl _ _, by simp⟩
 | k + 2, hk =>
  refine (Any.strings_Repeat_main Zp2 xB105 ⟨#[48]⟩ (k + 2) w oo oo (by show 1 * (k + 2) ≤ _; omega) dd).mono ?_
  rintro e w' ⟨he, hw⟩
  rw [rep48] at he
  exact ⟨_, [], he, ⟨rfl, rfl⟩, hw, by simp⟩
theorem Qad (b cap : Nat) (l : List ByteArray) (R : List Value) (hn : l.length ≤ 1000000000000) (σ : List (Nat × Obj)) (Φ : List Zy) :
  Zob Tryz.prog 170 [.slice (some ⟨b, 0, none⟩) l.length cap] ((b, .cells (List.map encs l ++ R).toArray 9 (0, 0)) :: σ) Φ
   (fun v σ' Ψ => v = .tuple #[] ∧ σ' = (b, .cells (List.map encs l.reverse ++ R).toArray 9 (0, 0)) :: σ ∧ Ψ = Φ) := by
 intro S w0 w hS hm
 obtain ⟨X, _, h2, h3, h4⟩ := hm.facts
 have hz : ∀ l : List ByteArray, (l.map (·.data.toList)).map encStr = List.map encs l := fun l => by rw [List.map_map]; rfl
 have hown := hm.own (b, _) (List.mem_cons_self ..)
 rw [← hz] at hm hown
 have h := Any.slices_Reverse_string lays17 b 0 cap (l.map (·.data.toList)) w (Zi3 hown) (by rw [List.length_map]; omega)
 rw [List.length_map] at h
 refine h.mono ?_
 rintro e w' ⟨he, n, hw⟩
 subst hw
 have hr := mem_sorted (enc := encStr) (d := (l.map (·.data.toList)).reverse) hS hm ss n #[]
 rw [← List.map_reverse, hz] at hr
 refine ⟨_, _, _, he, ⟨rfl, rfl, rfl⟩, ?_⟩
 have e3 : putRow encStr (Sort.ahead w n) b 0 (l.map (·.data.toList)).reverse.toArray = sortWorld encStr w b 0 n (l.map (·.data.toList)).reverse.toArray #[] := by
  have hg : ∀ W : World, Sort.grow W #[] = W := fun W => by cases W; simp [Sort.grow]
  unfold sortWorld; rw [hg]
 rw [e3, ← List.map_reverse]
 exact hr
end Go.Proofs.YtddhlkfpdjmplaaGreatDoor
