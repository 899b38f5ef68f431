/- Written by a program of ours (gen.py) out of short specifications. By an AI agent. -/
import Derived.Test.YtddhlkfpdjmplaaGreatDoorDig0
import Derived.Test.YtddhlkfpdjmplaaGreatDoorFxV
import Derived.Shelf.Strconv.Itoa3
import Derived.Shelf.Strings.Repeat
import Derived.Shelf.Slices.ReverseS
set_option linter.unusedVariables false
set_option linter.unusedSimpArgs false
set_option maxRecDepth 4000
namespace Go.Proofs.YtddhlkfpdjmplaaGreatDoor
open Go Go.Proofs Go.Fx Go.Shelf Go.RowKit Go.Sort
def lays171_ren : Go.Shelf.Ren := ⟨fun | 171 => 149 | 243 => 195 | 246 => 223 | 283 => 224 | 284 => 225 | 285 => 226 | 286 => 227 | 129 => 220 | 317 => 240 | 318 => 241 | 319 => 242 | 320 => 243 | 337 => 246 | 338 => 247 | n => n, fun | 3 => 3 | 9 => 9 | 2 => 2 | 4 => 4 | 171 => 269 | 0 => 0 | 53 => 36 | 37 => 193 | 5 => 5 | 173 => 271 | 212 => 286 | 51 => 23 | 20 => 20 | 213 => 287 | 46 => 101 | 232 => 291 | 233 => 292 | n => n, fun | 17 => 2 | 18 => 3 | 19 => 4 | n => n⟩
theorem lays171 : Go.Proofs.LaysM.n171 Tryz.prog lays171_ren := {
  mixed := by kernel_rfl
  f129 := Tryz.func220.trans (congrArg some (by kernel_rfl))
  f171 := Tryz.func149.trans (congrArg some (by kernel_rfl))
  f243 := Tryz.func195.trans (congrArg some (by kernel_rfl))
  f246 := Tryz.func223.trans (congrArg some (by kernel_rfl))
  f283 := Tryz.func224.trans (congrArg some (by kernel_rfl))
  f284 := Tryz.func225.trans (congrArg some (by kernel_rfl))
  f285 := Tryz.func226.trans (congrArg some (by kernel_rfl))
  f286 := Tryz.func227.trans (congrArg some (by kernel_rfl))
  f317 := Tryz.func240.trans (congrArg some (by kernel_rfl))
  f318 := Tryz.func241.trans (congrArg some (by kernel_rfl))
  f319 := Tryz.func242.trans (congrArg some (by kernel_rfl))
  f320 := Tryz.func243.trans (congrArg some (by kernel_rfl))
  f337 := Tryz.func246.trans (congrArg some (by kernel_rfl))
  f338 := Tryz.func247.trans (congrArg some (by kernel_rfl))
  t0 := Tryz.underlying0
  a0 := Tryz.isAgg0
  z0 := Tryz.sizeOf0
  v0 := Tryz.zeroValue0
  t2 := Tryz.underlying2
  a2 := Tryz.isAgg2
  z2 := Tryz.sizeOf2
  v2 := Tryz.zeroValue2
  t3 := Tryz.underlying3
  a3 := Tryz.isAgg3
  z3 := Tryz.sizeOf3
  v3 := Tryz.zeroValue3
  t4 := Tryz.underlying4
  a4 := Tryz.isAgg4
  z4 := Tryz.sizeOf4
  v4 := Tryz.zeroValue4
  t5 := Tryz.underlying5
  a5 := Tryz.isAgg5
  z5 := Tryz.sizeOf5
  v5 := Tryz.zeroValue5
  t9 := Tryz.underlying9
  a9 := Tryz.isAgg9
  z9 := Tryz.sizeOf9
  v9 := Tryz.zeroValue9
  t20 := Tryz.underlying20
  a20 := Tryz.isAgg20
  z20 := Tryz.sizeOf20
  v20 := Tryz.zeroValue20
  t37 := Tryz.underlying193
  a37 := Tryz.isAgg193
  z37 := Tryz.sizeOf193
  v37 := Tryz.zeroValue193
  t46 := Tryz.underlying101
  a46 := Tryz.isAgg101
  z46 := Tryz.sizeOf101
  v46 := Tryz.zeroValue101
  t51 := Tryz.underlying23
  a51 := Tryz.isAgg23
  z51 := Tryz.sizeOf23
  v51 := Tryz.zeroValue23
  t53 := Tryz.underlying36
  a53 := Tryz.isAgg36
  z53 := Tryz.sizeOf36
  v53 := Tryz.zeroValue36
  t171 := Tryz.underlying269
  a171 := Tryz.isAgg269
  z171 := Tryz.sizeOf269
  v171 := Tryz.zeroValue269
  t173 := Tryz.underlying271
  a173 := Tryz.isAgg271
  z173 := Tryz.sizeOf271
  v173 := Tryz.zeroValue271
  t212 := Tryz.underlying286
  a212 := Tryz.isAgg286
  z212 := Tryz.sizeOf286
  v212 := Tryz.zeroValue286
  t213 := Tryz.underlying287
  a213 := Tryz.isAgg287
  z213 := Tryz.sizeOf287
  t232 := Tryz.underlying291
  a232 := Tryz.isAgg291
  z232 := Tryz.sizeOf291
  v232 := Tryz.zeroValue291
  t233 := Tryz.underlying292
  a233 := Tryz.isAgg292
  z233 := Tryz.sizeOf292
  v233 := Tryz.zeroValue292
  g17 := by kernel_rfl
  g18 := by kernel_rfl
  g19 := by kernel_rfl
  i0 := by kernel_rfl
  i2 := by kernel_rfl
  i3 := by kernel_rfl
  i4 := by kernel_rfl
  i5 := by kernel_rfl
  i9 := by kernel_rfl
  i20 := by kernel_rfl
  i37 := by kernel_rfl
  i46 := by kernel_rfl
  i51 := by kernel_rfl
  i53 := by kernel_rfl
  i171 := by kernel_rfl
  i173 := by kernel_rfl
  i212 := by kernel_rfl
  i232 := by kernel_rfl
  i233 := by kernel_rfl
  m17 := by kernel_rfl
  m18 := by kernel_rfl
  m19 := by kernel_rfl }
def lays105_ren : Go.Shelf.Ren := ⟨fun | 105 => 169 | 212 => 201 | 99 => 202 | 165 => 146 | 166 => 147 | 170 => 203 | 169 => 148 | 263 => 228 | 264 => 187 | 206 => 229 | 240 => 193 | 241 => 194 | 276 => 221 | 277 => 222 | n => n, fun | 9 => 9 | 3 => 3 | 4 => 4 | 20 => 20 | 0 => 0 | 46 => 101 | 109 => 248 | 5 => 5 | 72 => 195 | 76 => 199 | 51 => 23 | 146 => 246 | 53 => 36 | 148 => 237 | 70 => 192 | 37 => 193 | 75 => 198 | 127 => 243 | 164 => 265 | 80 => 201 | n => n, fun | n => n⟩
theorem lays105 : Go.Proofs.Lays.n105 Tryz.prog lays105_ren := {
  mixed := by kernel_rfl
  f99 := Tryz.func202.trans (congrArg some (by kernel_rfl))
  f105 := Tryz.func169.trans (congrArg some (by kernel_rfl))
  f165 := Tryz.func146.trans (congrArg some (by kernel_rfl))
  f166 := Tryz.func147.trans (congrArg some (by kernel_rfl))
  f169 := Tryz.func148.trans (congrArg some (by kernel_rfl))
  f170 := Tryz.func203.trans (congrArg some (by kernel_rfl))
  f206 := Tryz.func229.trans (congrArg some (by kernel_rfl))
  f212 := Tryz.func201.trans (congrArg some (by kernel_rfl))
  f240 := Tryz.func193.trans (congrArg some (by kernel_rfl))
  f241 := Tryz.func194.trans (congrArg some (by kernel_rfl))
  f263 := Tryz.func228.trans (congrArg some (by kernel_rfl))
  f264 := Tryz.func187.trans (congrArg some (by kernel_rfl))
  f276 := Tryz.func221.trans (congrArg some (by kernel_rfl))
  f277 := Tryz.func222.trans (congrArg some (by kernel_rfl))
  t0 := Tryz.underlying0
  a0 := Tryz.isAgg0
  z0 := Tryz.sizeOf0
  v0 := Tryz.zeroValue0
  t3 := Tryz.underlying3
  a3 := Tryz.isAgg3
  z3 := Tryz.sizeOf3
  v3 := Tryz.zeroValue3
  t4 := Tryz.underlying4
  a4 := Tryz.isAgg4
  z4 := Tryz.sizeOf4
  v4 := Tryz.zeroValue4
  t5 := Tryz.underlying5
  a5 := Tryz.isAgg5
  z5 := Tryz.sizeOf5
  v5 := Tryz.zeroValue5
  t9 := Tryz.underlying9
  a9 := Tryz.isAgg9
  z9 := Tryz.sizeOf9
  v9 := Tryz.zeroValue9
  t20 := Tryz.underlying20
  a20 := Tryz.isAgg20
  z20 := Tryz.sizeOf20
  v20 := Tryz.zeroValue20
  t37 := Tryz.underlying193
  a37 := Tryz.isAgg193
  z37 := Tryz.sizeOf193
  v37 := Tryz.zeroValue193
  t46 := Tryz.underlying101
  a46 := Tryz.isAgg101
  z46 := Tryz.sizeOf101
  v46 := Tryz.zeroValue101
  t51 := Tryz.underlying23
  a51 := Tryz.isAgg23
  z51 := Tryz.sizeOf23
  v51 := Tryz.zeroValue23
  t53 := Tryz.underlying36
  a53 := Tryz.isAgg36
  z53 := Tryz.sizeOf36
  v53 := Tryz.zeroValue36
  t70 := Tryz.underlying192
  a70 := Tryz.isAgg192
  z70 := Tryz.sizeOf192
  v70 := Tryz.zeroValue192
  t72 := Tryz.underlying195
  a72 := Tryz.isAgg195
  z72 := Tryz.sizeOf195
  v72 := Tryz.zeroValue195
  t75 := Tryz.underlying198
  a75 := Tryz.isAgg198
  z75 := Tryz.sizeOf198
  v75 := Tryz.zeroValue198
  t76 := Tryz.underlying199
  a76 := Tryz.isAgg199
  z76 := Tryz.sizeOf199
  v76 := Tryz.zeroValue199
  t109 := Tryz.underlying248
  a109 := Tryz.isAgg248
  z109 := Tryz.sizeOf248
  v109 := Tryz.zeroValue248
  t127 := Tryz.underlying243
  a127 := Tryz.isAgg243
  z127 := Tryz.sizeOf243
  v127 := Tryz.zeroValue243
  t146 := Tryz.underlying246
  a146 := Tryz.isAgg246
  z146 := Tryz.sizeOf246
  v146 := Tryz.zeroValue246
  t148 := Tryz.underlying237
  a148 := Tryz.isAgg237
  z148 := Tryz.sizeOf237
  v148 := Tryz.zeroValue237
  t164 := Tryz.underlying265
  a164 := Tryz.isAgg265
  z164 := Tryz.sizeOf265
  v164 := Tryz.zeroValue265 }
def lays17_ren : Go.Shelf.Ren := ⟨fun | 17 => 170 | n => n, fun | 24 => 132 | 9 => 9 | 3 => 3 | 4 => 4 | 0 => 0 | n => n, fun | n => n⟩
theorem lays17 : Go.Proofs.Lays2.n17 Tryz.prog lays17_ren := {
  mixed := by kernel_rfl
  f17 := Tryz.func170.trans (congrArg some (by kernel_rfl))
  t0 := Tryz.underlying0
  a0 := Tryz.isAgg0
  z0 := Tryz.sizeOf0
  v0 := Tryz.zeroValue0
  t3 := Tryz.underlying3
  a3 := Tryz.isAgg3
  z3 := Tryz.sizeOf3
  v3 := Tryz.zeroValue3
  t4 := Tryz.underlying4
  a4 := Tryz.isAgg4
  z4 := Tryz.sizeOf4
  v4 := Tryz.zeroValue4
  t9 := Tryz.underlying9
  a9 := Tryz.isAgg9
  z9 := Tryz.sizeOf9
  v9 := Tryz.zeroValue9
  t24 := Tryz.underlying132
  a24 := Tryz.isAgg132
  z24 := Tryz.sizeOf132
  v24 := Tryz.zeroValue132 }
theorem xB105 : Builder.Extra Tryz.prog lays105_ren where
  sizeBuilder := by kernel_rfl
  liesBuilder := by kernel_rfl
  t5 := Tryz.underlying5
  a5 := Tryz.isAgg5
  z5 := Tryz.sizeOf5
  v5 := Tryz.zeroValue5
  infoByte := by kernel_rfl
  cellsByte := by kernel_rfl
  sizeByte := by kernel_rfl
  neB5 := by decide
theorem C_ItoaG (n : Nat) (hn : n < 9223372036854775808) : CtrW Tryz.prog 149 [.int .i64 (n : Int)] [TabF] (.string (dB n)) := by
  intro X w hX hΦ
  obtain ⟨g, hg, _, _, ht⟩ := hΦ TabF (List.Mem.head _)
  refine (Any.strconv_Itoa lays171 (n : Int) (by omega) (by omega) w ht).mono ?_
  rintro e w' ⟨he, k, os, hw⟩
  subst hw
  have e2 : Lib.itoa (n : Int) = Lib.decDigits n := by unfold Lib.itoa; rw [if_neg (by omega), Int.toNat_natCast]
  rw [e2] at he
  exact ⟨_, [], he, ⟨rfl, rfl⟩, below_grow w k os, fun _ h => nomatch h⟩
def zerB (k : Nat) : ByteArray := ⟨(List.replicate k 48).toArray⟩
theorem zerB_size (k : Nat) : (zerB k).size = k := by show (List.replicate k (48 : UInt8)).toArray.size = k; simp
theorem rep48 (k : Nat) : Lib.repeatL (ByteArray.mk #[48]).data.toList k = List.replicate k 48 := by
  have h := Lib.repeatL_replicate 48 1 k
  rw [Nat.mul_one] at h; exact h
theorem C_Repeat (k : Nat) (hk : k ≤ 1000) : CtrV Tryz.prog 169 [.string ⟨#[48]⟩, .int .i64 (k : Int)] (.string (zerB k)) := by
  intro X w hX _
  match k, hk with
  | 0, _ =>
    refine (Any.strings_Repeat_zero lays105 ⟨#[48]⟩ w).mono ?_
    rintro e w' ⟨he, hw⟩
    subst hw
    exact ⟨_, [], he, ⟨rfl, rfl⟩, Below.refl _ _, by simp⟩
  | 1, _ =>
    refine (Any.strings_Repeat_one lays105 ⟨#[48]⟩ w).mono ?_
    rintro e w' ⟨he, hw⟩
    subst hw
    exact ⟨_, [], he, ⟨rfl, rfl⟩, Below.refl _ _, by simp⟩
  | k + 2, hk =>
    refine (Any.strings_Repeat_main lays105 xB105 ⟨#[48]⟩ (k + 2) w (by omega) (by omega) (by show 1 * (k + 2) ≤ _; omega) (by decide)).mono ?_
    rintro e w' ⟨he, hw⟩
    rw [rep48] at he
    exact ⟨_, [], he, ⟨rfl, rfl⟩, hw, by simp⟩
theorem C_Reverse (b cap : Nat) (l : List ByteArray) (R : List Value) (hn : l.length ≤ 1000000000000) (σ : List (Nat × Obj)) (Φ : List SPred) :
    CtrM Tryz.prog 170 [.slice (some ⟨b, 0, none⟩) l.length cap] ((b, .cells (List.map encs l ++ R).toArray 9 (0, 0)) :: σ) Φ
      (fun v σ' Ψ => v = .tuple #[] ∧ σ' = (b, .cells (List.map encs l.reverse ++ R).toArray 9 (0, 0)) :: σ ∧ Ψ = Φ) := by
  intro S w0 w hS hm
  obtain ⟨X, _, h2, h3, h4⟩ := hm.facts
  have hz : ∀ l : List ByteArray, (l.map (·.data.toList)).map encStr = List.map encs l := fun l => by rw [List.map_map]; rfl
  have hown := hm.own (b, _) (List.mem_cons_self ..)
  rw [← hz] at hm hown
  have h := Any.slices_Reverse_string lays17 b 0 cap (l.map (·.data.toList)) w (holds_own hown) (by rw [List.length_map]; omega)
  rw [List.length_map] at h
  refine h.mono ?_
  rintro e w' ⟨he, n, hw⟩
  subst hw
  have hr := mem_sorted (enc := encStr) (d := (l.map (·.data.toList)).reverse) hS hm (by simp) n #[]
  rw [← List.map_reverse, hz] at hr
  refine ⟨_, _, _, he, ⟨rfl, rfl, rfl⟩, ?_⟩
  have e3 : putRow encStr (Sort.ahead w n) b 0 (l.map (·.data.toList)).reverse.toArray = sortWorld encStr w b 0 n (l.map (·.data.toList)).reverse.toArray #[] := by
    have hg : ∀ W : World, Sort.grow W #[] = W := fun W => by cases W; simp [Sort.grow]
    unfold sortWorld; rw [hg]
  rw [e3, ← List.map_reverse]
  exact hr
end Go.Proofs.YtddhlkfpdjmplaaGreatDoor
