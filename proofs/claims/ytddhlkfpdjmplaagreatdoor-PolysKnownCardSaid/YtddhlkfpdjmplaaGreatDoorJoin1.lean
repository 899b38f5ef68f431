/- Walks of functions. By an AI agent. -/
import Derived.Test.YtddhlkfpdjmplaaGreatDoorLaw08a
import Derived.Test.YtddhlkfpdjmplaaGreatDoorFxG
import Derived.Shelf.Strings.OnBuilder
set_option linter.unusedVariables false
set_option linter.unusedSimpArgs false
set_option maxRecDepth 4000
namespace Go.Proofs.YtddhlkfpdjmplaaGreatDoor
open Go Go.Proofs Go.Fx Go.Shelf Go.RowKit Tryz
def Zi0 : Go.Shelf.Ren := ⟨fun | 156 => 84 | 165 => 146 | 166 => 147 | 169 => 148 | 240 => 193 | 241 => 194 | 276 => 221 | 277 => 222 | n => n, fun | 31 => 132 | 9 => 9 | 3 => 3 | 4 => 4 | 0 => 0 | 20 => 20 | 72 => 195 | 76 => 199 | 70 => 192 | 37 => 193 | 75 => 198 | 127 => 243 | 164 => 265 | 5 => 5 | 80 => 201 | n => n, fun | n => n⟩
theorem Zxz : Go.Proofs.Lays.n156 Tryz.prog Zi0 := {
 mixed := by kernel_rfl
 f156 := func84.trans (congrArg some kk)
 f165 := func146.trans (congrArg some kk)
 f166 := func147.trans (congrArg some kk)
 f169 := func148.trans (congrArg some kk)
 f240 := func193.trans (congrArg some kk)
 f241 := func194.trans (congrArg some kk)
 f276 := func221.trans (congrArg some kk)
 f277 := func222.trans (congrArg some kk)
 t0 := underlying0
 a0 := isAgg0
 z0 := sizeOf0
 v0 := zeroValue0
 t3 := underlying3
 a3 := isAgg3
 z3 := sizeOf3
 v3 := zeroValue3
 t4 := underlying4
 a4 := isAgg4
 z4 := sizeOf4
 v4 := zeroValue4
 t9 := underlying9
 a9 := isAgg9
 z9 := sizeOf9
 v9 := zeroValue9
 t20 := underlying20
 a20 := isAgg20
 z20 := sizeOf20
 v20 := zeroValue20
 t31 := underlying132
 a31 := isAgg132
 z31 := sizeOf132
 v31 := zeroValue132
 t37 := underlying193
 a37 := isAgg193
 z37 := sizeOf193
 v37 := zeroValue193
 t70 := underlying192
 a70 := isAgg192
 z70 := sizeOf192
 v70 := zeroValue192
 t72 := underlying195
 a72 := isAgg195
 z72 := sizeOf195
 v72 := zeroValue195
 t75 := underlying198
 a75 := isAgg198
 z75 := sizeOf198
 v75 := zeroValue198
 t76 := underlying199
 a76 := isAgg199
 z76 := sizeOf199
 v76 := zeroValue199
 t127 := underlying243
 a127 := isAgg243
 z127 := sizeOf243
 v127 := zeroValue243
 t164 := underlying265
 a164 := isAgg265
 z164 := sizeOf265
 v164 := zeroValue265 }
theorem xB156 : Builder.Extra Tryz.prog Zi0 where
 sizeBuilder := by kernel_rfl
 liesBuilder := by kernel_rfl
 t5 := underlying5
 a5 := isAgg5
 z5 := sizeOf5
 v5 := zeroValue5
 infoByte := by kernel_rfl
 cellsByte := by kernel_rfl
 sizeByte := by kernel_rfl
 neB5 := by decide
abbrev encs (s : ByteArray) : Value := .string s
def Zj5 (l : List ByteArray) (sep : ByteArray) : ByteArray := ⟨(Lib.join (l.map (·.data.toList)) sep.data.toList).toArray⟩
theorem Zxu (M : Nat) : ∀ l : List ByteArray, (∀ x ∈ l, x.size ≤ M) → Lib.lens (l.map (·.data.toList)) ≤ l.length * M
 | [], _ => Nat.zero_le _
 | x :: l, h => by
  have h1 := h x List.mem_cons_self
  have h2 := Zxu M l (fun y hy => h y (List.mem_cons_of_mem _ hy))
  have e : Lib.lens ((x :: l).map (·.data.toList)) = x.size + Lib.lens (l.map (·.data.toList)) := by simp only [Lib.lens, List.map_cons, List.length_cons]; rfl
  rw [e, List.length_cons, Nat.add_mul]; omega
theorem Zkq (M : Nat) (l : List ByteArray) (sep : ByteArray) (h : ∀ x ∈ l, x.size ≤ M) : (Zj5 l sep).size ≤ l.length * (M + sep.size) := by
 show (Lib.join (l.map (·.data.toList)) sep.data.toList).toArray.size ≤ _
 rw [List.size_toArray]
 rcases l with _ | ⟨x, l⟩
 · exact Nat.zero_le _
 ·
  have h2 := Zxu M (x :: l) h
  rw [List.map_cons, Lib.join_length, List.length_map]
  have e : sep.data.toList.length = sep.size := rfl
  rw [e]
  rw [List.map_cons] at h2
  rw [Nat.mul_add, List.length_cons, Nat.add_mul, Nat.add_mul] at *
  have : sep.size * l.length = l.length * sep.size := Nat.mul_comm _ _
  omega
theorem Qez (ad : Option Addr) (c : Nat) (l : List ByteArray) (sep : ByteArray) (hc : l.length ≤ c) (hn : l.length ≤ 1000000) (M : Nat) (hM : ∀ x ∈ l, x.size ≤ M) (hs : l.length * (M + sep.size) ≤ 140737488355328) :
  Vj Tryz.prog 84 [.slice ad l.length c, .string sep] [Row ad (List.map encs l)] (.string (Zj5 l sep)) := by
 intro X w hX hΦ
 rcases Nat.eq_zero_or_pos l.length with h0 | h0
 ·
  have hl : l = [] := List.eq_nil_of_length_eq_zero h0
  subst hl
  refine (Any.strings_Join_none Zxz xB156 ad c sep w).mono ?_
  rintro e w' ⟨he, hw⟩
  subst hw
  exact ⟨_, [], he, ⟨rfl, rfl⟩, Below.refl _ _, by simp⟩
 ·
  obtain ⟨b, off, cs, T, fr, rfl, _, hb, hj⟩ := hΦ _ (List.Mem.head _) (fun e => by have := congrArg List.length e; rw [List.length_map, List.length_nil] at this; omega)
  refine (Any.strings_Join Zxz xB156 b off c l sep w (fun j x hx => ?_) ?_ oo hc ?_).mono ?_
  ·
   have hjl : j < l.length := by
    rcases Nat.lt_or_ge j l.length with h | h
    · exact h
    · rw [List.getElem?_eq_none h] at hx; cases hx
   have h1 := hj j (by rw [List.length_map]; exact hjl)
   rw [List.getElem?_map, hx] at h1
   unfold World.cell?
   simp only [hb]
   exact h1
  ·
   rcases Nat.lt_or_ge b w.heap.size with h | h
   · exact h
   · rw [Array.getElem?_eq_none h] at hb; cases hb
  ·
   have h1 := Zkq M l sep hM
   have e : (Zj5 l sep).size = (Lib.join (l.map (·.data.toList)) sep.data.toList).length := by
    show (Lib.join (l.map (·.data.toList)) sep.data.toList).toArray.size = _
    rw [List.size_toArray]
   omega
  ·
   rintro e w' ⟨he, hw⟩
   exact ⟨_, [], he, ⟨rfl, rfl⟩, hw, by simp⟩
end Go.Proofs.YtddhlkfpdjmplaaGreatDoor
