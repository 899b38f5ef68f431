/- Written by a program of ours (gen.py) out of short specifications. By an AI agent. -/
import Derived.Test.YtgkicbaomcmfoaaGreatDoorPolyt
import Derived.Test.YtgkicbaomcmfoaaGreatDoorFxV
import Derived.Shelf.Strconv.Itoa3
import Derived.Shelf.Strings.Repeat
import Derived.Shelf.Slices.ReverseS
set_option linter.unusedVariables false
set_option linter.unusedSimpArgs false
set_option maxRecDepth 4000
namespace Go.Proofs.YtgkicbaomcmfoaaGreatDoor
open Go Go.Proofs Go.Fx Go.Shelf Go.RowKit Go.Sort
def lays171_ren : Go.Shelf.Ren := ⟨fun | 171 => 80 | 243 => 120 | 246 => 167 | 283 => 182 | 284 => 183 | 285 => 184 | 286 => 185 | 129 => 181 | 317 => 218 | 318 => 219 | 319 => 220 | 320 => 221 | 337 => 231 | 338 => 232 | n => n, fun | 3 => 3 | 9 => 9 | 2 => 2 | 4 => 4 | 171 => 238 | 0 => 0 | 53 => 45 | 37 => 35 | 5 => 5 | 173 => 240 | 212 => 271 | 51 => 54 | 20 => 20 | 213 => 272 | 46 => 124 | 232 => 284 | 233 => 285 | n => n, fun | 17 => 2 | 18 => 5 | 19 => 6 | n => n⟩
theorem lays171 : Go.Proofs.LaysM.n171 Tryz.prog lays171_ren := {
  mixed := by kernel_rfl
  f129 := Tryz.func181.trans (congrArg some (by kernel_rfl))
  f171 := Tryz.func80.trans (congrArg some (by kernel_rfl))
  f243 := Tryz.func120.trans (congrArg some (by kernel_rfl))
  f246 := Tryz.func167.trans (congrArg some (by kernel_rfl))
  f283 := Tryz.func182.trans (congrArg some (by kernel_rfl))
  f284 := Tryz.func183.trans (congrArg some (by kernel_rfl))
  f285 := Tryz.func184.trans (congrArg some (by kernel_rfl))
  f286 := Tryz.func185.trans (congrArg some (by kernel_rfl))
  f317 := Tryz.func218.trans (congrArg some (by kernel_rfl))
  f318 := Tryz.func219.trans (congrArg some (by kernel_rfl))
  f319 := Tryz.func220.trans (congrArg some (by kernel_rfl))
  f320 := Tryz.func221.trans (congrArg some (by kernel_rfl))
  f337 := Tryz.func231.trans (congrArg some (by kernel_rfl))
  f338 := Tryz.func232.trans (congrArg some (by kernel_rfl))
  t0 := Tryz.underlying0
  a0 := Tryz.isAgg0
  z0 := Tryz.sizeOf0
  v0 := Tryz.zeroValue0
  t2 := Tryz.underlying2
  a2 := Tryz.isAgg2
  z2 := Tryz.sizeOf2
  v2 := Tryz.zeroValue2
  t3 := Tryz.underlying3
  a3 := Tryz.isAgg3
  z3 := Tryz.sizeOf3
  v3 := Tryz.zeroValue3
  t4 := Tryz.underlying4
  a4 := Tryz.isAgg4
  z4 := Tryz.sizeOf4
  v4 := Tryz.zeroValue4
  t5 := Tryz.underlying5
  a5 := Tryz.isAgg5
  z5 := Tryz.sizeOf5
  v5 := Tryz.zeroValue5
  t9 := Tryz.underlying9
  a9 := Tryz.isAgg9
  z9 := Tryz.sizeOf9
  v9 := Tryz.zeroValue9
  t20 := Tryz.underlying20
  a20 := Tryz.isAgg20
  z20 := Tryz.sizeOf20
  v20 := Tryz.zeroValue20
  t37 := Tryz.underlying35
  a37 := Tryz.isAgg35
  z37 := Tryz.sizeOf35
  v37 := Tryz.zeroValue35
  t46 := Tryz.underlying124
  a46 := Tryz.isAgg124
  z46 := Tryz.sizeOf124
  v46 := Tryz.zeroValue124
  t51 := Tryz.underlying54
  a51 := Tryz.isAgg54
  z51 := Tryz.sizeOf54
  v51 := Tryz.zeroValue54
  t53 := Tryz.underlying45
  a53 := Tryz.isAgg45
  z53 := Tryz.sizeOf45
  v53 := Tryz.zeroValue45
  t171 := Tryz.underlying238
  a171 := Tryz.isAgg238
  z171 := Tryz.sizeOf238
  v171 := Tryz.zeroValue238
  t173 := Tryz.underlying240
  a173 := Tryz.isAgg240
  z173 := Tryz.sizeOf240
  v173 := Tryz.zeroValue240
  t212 := Tryz.underlying271
  a212 := Tryz.isAgg271
  z212 := Tryz.sizeOf271
  v212 := Tryz.zeroValue271
  t213 := Tryz.underlying272
  a213 := Tryz.isAgg272
  z213 := Tryz.sizeOf272
  t232 := Tryz.underlying284
  a232 := Tryz.isAgg284
  z232 := Tryz.sizeOf284
  v232 := Tryz.zeroValue284
  t233 := Tryz.underlying285
  a233 := Tryz.isAgg285
  z233 := Tryz.sizeOf285
  v233 := Tryz.zeroValue285
  g17 := by kernel_rfl
  g18 := by kernel_rfl
  g19 := by kernel_rfl
  i0 := by kernel_rfl
  i2 := by kernel_rfl
  i3 := by kernel_rfl
  i4 := by kernel_rfl
  i5 := by kernel_rfl
  i9 := by kernel_rfl
  i20 := by kernel_rfl
  i37 := by kernel_rfl
  i46 := by kernel_rfl
  i51 := by kernel_rfl
  i53 := by kernel_rfl
  i171 := by kernel_rfl
  i173 := by kernel_rfl
  i212 := by kernel_rfl
  i232 := by kernel_rfl
  i233 := by kernel_rfl
  m17 := by kernel_rfl
  m18 := by kernel_rfl
  m19 := by kernel_rfl }
def lays105_ren : Go.Shelf.Ren := ⟨fun | 105 => 95 | 212 => 136 | 99 => 137 | 165 => 77 | 166 => 78 | 170 => 138 | 169 => 79 | 263 => 186 | 264 => 127 | 206 => 187 | 240 => 118 | 241 => 119 | 276 => 165 | 277 => 166 | n => n, fun | 9 => 9 | 3 => 3 | 4 => 4 | 20 => 20 | 0 => 0 | 46 => 124 | 109 => 200 | 5 => 5 | 72 => 130 | 76 => 134 | 51 => 54 | 146 => 198 | 53 => 45 | 148 => 191 | 70 => 128 | 37 => 35 | 75 => 133 | 127 => 183 | 164 => 223 | 80 => 136 | n => n, fun | n => n⟩
theorem lays105 : Go.Proofs.Lays.n105 Tryz.prog lays105_ren := {
  mixed := by kernel_rfl
  f99 := Tryz.func137.trans (congrArg some (by kernel_rfl))
  f105 := Tryz.func95.trans (congrArg some (by kernel_rfl))
  f165 := Tryz.func77.trans (congrArg some (by kernel_rfl))
  f166 := Tryz.func78.trans (congrArg some (by kernel_rfl))
  f169 := Tryz.func79.trans (congrArg some (by kernel_rfl))
  f170 := Tryz.func138.trans (congrArg some (by kernel_rfl))
  f206 := Tryz.func187.trans (congrArg some (by kernel_rfl))
  f212 := Tryz.func136.trans (congrArg some (by kernel_rfl))
  f240 := Tryz.func118.trans (congrArg some (by kernel_rfl))
  f241 := Tryz.func119.trans (congrArg some (by kernel_rfl))
  f263 := Tryz.func186.trans (congrArg some (by kernel_rfl))
  f264 := Tryz.func127.trans (congrArg some (by kernel_rfl))
  f276 := Tryz.func165.trans (congrArg some (by kernel_rfl))
  f277 := Tryz.func166.trans (congrArg some (by kernel_rfl))
  t0 := Tryz.underlying0
  a0 := Tryz.isAgg0
  z0 := Tryz.sizeOf0
  v0 := Tryz.zeroValue0
  t3 := Tryz.underlying3
  a3 := Tryz.isAgg3
  z3 := Tryz.sizeOf3
  v3 := Tryz.zeroValue3
  t4 := Tryz.underlying4
  a4 := Tryz.isAgg4
  z4 := Tryz.sizeOf4
  v4 := Tryz.zeroValue4
  t5 := Tryz.underlying5
  a5 := Tryz.isAgg5
  z5 := Tryz.sizeOf5
  v5 := Tryz.zeroValue5
  t9 := Tryz.underlying9
  a9 := Tryz.isAgg9
  z9 := Tryz.sizeOf9
  v9 := Tryz.zeroValue9
  t20 := Tryz.underlying20
  a20 := Tryz.isAgg20
  z20 := Tryz.sizeOf20
  v20 := Tryz.zeroValue20
  t37 := Tryz.underlying35
  a37 := Tryz.isAgg35
  z37 := Tryz.sizeOf35
  v37 := Tryz.zeroValue35
  t46 := Tryz.underlying124
  a46 := Tryz.isAgg124
  z46 := Tryz.sizeOf124
  v46 := Tryz.zeroValue124
  t51 := Tryz.underlying54
  a51 := Tryz.isAgg54
  z51 := Tryz.sizeOf54
  v51 := Tryz.zeroValue54
  t53 := Tryz.underlying45
  a53 := Tryz.isAgg45
  z53 := Tryz.sizeOf45
  v53 := Tryz.zeroValue45
  t70 := Tryz.underlying128
  a70 := Tryz.isAgg128
  z70 := Tryz.sizeOf128
  v70 := Tryz.zeroValue128
  t72 := Tryz.underlying130
  a72 := Tryz.isAgg130
  z72 := Tryz.sizeOf130
  v72 := Tryz.zeroValue130
  t75 := Tryz.underlying133
  a75 := Tryz.isAgg133
  z75 := Tryz.sizeOf133
  v75 := Tryz.zeroValue133
  t76 := Tryz.underlying134
  a76 := Tryz.isAgg134
  z76 := Tryz.sizeOf134
  v76 := Tryz.zeroValue134
  t109 := Tryz.underlying200
  a109 := Tryz.isAgg200
  z109 := Tryz.sizeOf200
  v109 := Tryz.zeroValue200
  t127 := Tryz.underlying183
  a127 := Tryz.isAgg183
  z127 := Tryz.sizeOf183
  v127 := Tryz.zeroValue183
  t146 := Tryz.underlying198
  a146 := Tryz.isAgg198
  z146 := Tryz.sizeOf198
  v146 := Tryz.zeroValue198
  t148 := Tryz.underlying191
  a148 := Tryz.isAgg191
  z148 := Tryz.sizeOf191
  v148 := Tryz.zeroValue191
  t164 := Tryz.underlying223
  a164 := Tryz.isAgg223
  z164 := Tryz.sizeOf223
  v164 := Tryz.zeroValue223 }
def lays17_ren : Go.Shelf.Ren := ⟨fun | 17 => 96 | n => n, fun | 24 => 87 | 9 => 9 | 3 => 3 | 4 => 4 | 0 => 0 | n => n, fun | n => n⟩
theorem lays17 : Go.Proofs.Lays2.n17 Tryz.prog lays17_ren := {
  mixed := by kernel_rfl
  f17 := Tryz.func96.trans (congrArg some (by kernel_rfl))
  t0 := Tryz.underlying0
  a0 := Tryz.isAgg0
  z0 := Tryz.sizeOf0
  v0 := Tryz.zeroValue0
  t3 := Tryz.underlying3
  a3 := Tryz.isAgg3
  z3 := Tryz.sizeOf3
  v3 := Tryz.zeroValue3
  t4 := Tryz.underlying4
  a4 := Tryz.isAgg4
  z4 := Tryz.sizeOf4
  v4 := Tryz.zeroValue4
  t9 := Tryz.underlying9
  a9 := Tryz.isAgg9
  z9 := Tryz.sizeOf9
  v9 := Tryz.zeroValue9
  t24 := Tryz.underlying87
  a24 := Tryz.isAgg87
  z24 := Tryz.sizeOf87
  v24 := Tryz.zeroValue87 }
theorem xB105 : Builder.Extra Tryz.prog lays105_ren where
  sizeBuilder := by kernel_rfl
  liesBuilder := by kernel_rfl
  t5 := Tryz.underlying5
  a5 := Tryz.isAgg5
  z5 := Tryz.sizeOf5
  v5 := Tryz.zeroValue5
  infoByte := by kernel_rfl
  cellsByte := by kernel_rfl
  sizeByte := by kernel_rfl
  neB5 := by decide
theorem C_ItoaG (n : Nat) (hn : n < 9223372036854775808) : CtrW Tryz.prog 80 [.int .i64 (n : Int)] [TabF] (.string (dB n)) := by
  intro X w hX hΦ
  obtain ⟨g, hg, _, _, ht⟩ := hΦ TabF (List.Mem.head _)
  refine (Any.strconv_Itoa lays171 (n : Int) (by omega) (by omega) w ht).mono ?_
  rintro e w' ⟨he, k, os, hw⟩
  subst hw
  have e2 : Lib.itoa (n : Int) = Lib.decDigits n := by unfold Lib.itoa; rw [if_neg (by omega), Int.toNat_natCast]
  rw [e2] at he
  exact ⟨_, [], he, ⟨rfl, rfl⟩, below_grow w k os, fun _ h => nomatch h⟩
def zerB (k : Nat) : ByteArray := ⟨(List.replicate k 48).toArray⟩
theorem zerB_size (k : Nat) : (zerB k).size = k := by show (List.replicate k (48 : UInt8)).toArray.size = k; simp
theorem rep48 (k : Nat) : Lib.repeatL (ByteArray.mk #[48]).data.toList k = List.replicate k 48 := by
  have h := Lib.repeatL_replicate 48 1 k
  rw [Nat.mul_one] at h; exact h
theorem C_Repeat (k : Nat) (hk : k ≤ 1000) : CtrV Tryz.prog 95 [.string ⟨#[48]⟩, .int .i64 (k : Int)] (.string (zerB k)) := by
  intro X w hX _
  match k, hk with
  | 0, _ =>
    refine (Any.strings_Repeat_zero lays105 ⟨#[48]⟩ w).mono ?_
    rintro e w' ⟨he, hw⟩
    subst hw
    exact ⟨_, [], he, ⟨rfl, rfl⟩, Below.refl _ _, by simp⟩
  | 1, _ =>
    refine (Any.strings_Repeat_one lays105 ⟨#[48]⟩ w).mono ?_
    rintro e w' ⟨he, hw⟩
    subst hw
    exact ⟨_, [], he, ⟨rfl, rfl⟩, Below.refl _ _, by simp⟩
  | k + 2, hk =>
    refine (Any.strings_Repeat_main lays105 xB105 ⟨#[48]⟩ (k + 2) w (by omega) (by omega) (by show 1 * (k + 2) ≤ _; omega) (by decide)).mono ?_
    rintro e w' ⟨he, hw⟩
    rw [rep48] at he
    exact ⟨_, [], he, ⟨rfl, rfl⟩, hw, by simp⟩
theorem C_Reverse (b cap : Nat) (l : List ByteArray) (R : List Value) (hn : l.length ≤ 1000000000000) (σ : List (Nat × Obj)) (Φ : List SPred) :
    CtrM Tryz.prog 96 [.slice (some ⟨b, 0, none⟩) l.length cap] ((b, .cells (List.map encs l ++ R).toArray 9 (0, 0)) :: σ) Φ
      (fun v σ' Ψ => v = .tuple #[] ∧ σ' = (b, .cells (List.map encs l.reverse ++ R).toArray 9 (0, 0)) :: σ ∧ Ψ = Φ) := by
  intro S w0 w hS hm
  obtain ⟨X, _, h2, h3, h4⟩ := hm.facts
  have hz : ∀ l : List ByteArray, (l.map (·.data.toList)).map encStr = List.map encs l := fun l => by rw [List.map_map]; rfl
  have hown := hm.own (b, _) (List.mem_cons_self ..)
  rw [← hz] at hm hown
  have h := Any.slices_Reverse_string lays17 b 0 cap (l.map (·.data.toList)) w (holds_own hown) (by rw [List.length_map]; omega)
  rw [List.length_map] at h
  refine h.mono ?_
  rintro e w' ⟨he, n, hw⟩
  subst hw
  have hr := mem_sorted (enc := encStr) (d := (l.map (·.data.toList)).reverse) hS hm (by simp) n #[]
  rw [← List.map_reverse, hz] at hr
  refine ⟨_, _, _, he, ⟨rfl, rfl, rfl⟩, ?_⟩
  have e3 : putRow encStr (Sort.ahead w n) b 0 (l.map (·.data.toList)).reverse.toArray = sortWorld encStr w b 0 n (l.map (·.data.toList)).reverse.toArray #[] := by
    have hg : ∀ W : World, Sort.grow W #[] = W := fun W => by cases W; simp [Sort.grow]
    unfold sortWorld; rw [hg]
  rw [e3, ← List.map_reverse]
  exact hr
end Go.Proofs.YtgkicbaomcmfoaaGreatDoor
