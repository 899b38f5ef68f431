/- Walks of functions. By an AI agent. -/
import Derived.Test.YtgkicbaomcmfoaaGreatDoorLaw08a
import Derived.Test.YtgkicbaomcmfoaaGreatDoorFxG
import Derived.Shelf.Strings.OnBuilder
set_option linter.unusedVariables false
set_option linter.unusedSimpArgs false
set_option maxRecDepth 4000
namespace Go.Proofs.YtgkicbaomcmfoaaGreatDoor
open Go Go.Proofs Go.Fx Go.Shelf Go.RowKit Tryz
def Zhx : Go.Shelf.Ren := ⟨fun | 156 => 45 | 165 => 77 | 166 => 78 | 169 => 79 | 240 => 118 | 241 => 119 | 276 => 165 | 277 => 166 | n => n, fun | 31 => 87 | 9 => 9 | 3 => 3 | 4 => 4 | 0 => 0 | 20 => 20 | 72 => 130 | 76 => 134 | 70 => 128 | 37 => 35 | 75 => 133 | 127 => 183 | 164 => 223 | 5 => 5 | 80 => 136 | n => n, fun | n => n⟩
theorem Zwl : Go.Proofs.Lays.n156 Tryz.prog Zhx := {
 mixed := by kernel_rfl
 f156 := func45.trans (congrArg some kk)
 f165 := func77.trans (congrArg some kk)
 f166 := func78.trans (congrArg some kk)
 f169 := func79.trans (congrArg some kk)
 f240 := func118.trans (congrArg some kk)
 f241 := func119.trans (congrArg some kk)
 f276 := func165.trans (congrArg some kk)
 f277 := func166.trans (congrArg some kk)
 t0 := underlying0
 a0 := isAgg0
 z0 := sizeOf0
 v0 := zeroValue0
 t3 := underlying3
 a3 := isAgg3
 z3 := sizeOf3
 v3 := zeroValue3
 t4 := underlying4
 a4 := isAgg4
 z4 := sizeOf4
 v4 := zeroValue4
 t9 := underlying9
 a9 := isAgg9
 z9 := sizeOf9
 v9 := zeroValue9
 t20 := underlying20
 a20 := isAgg20
 z20 := sizeOf20
 v20 := zeroValue20
 t31 := underlying87
 a31 := isAgg87
 z31 := sizeOf87
 v31 := zeroValue87
 t37 := underlying35
 a37 := isAgg35
 z37 := sizeOf35
 v37 := zeroValue35
 t70 := underlying128
 a70 := isAgg128
 z70 := sizeOf128
 v70 := zeroValue128
 t72 := underlying130
 a72 := isAgg130
 z72 := sizeOf130
 v72 := zeroValue130
 t75 := underlying133
 a75 := isAgg133
 z75 := sizeOf133
 v75 := zeroValue133
 t76 := underlying134
 a76 := isAgg134
 z76 := sizeOf134
 v76 := zeroValue134
 t127 := underlying183
 a127 := isAgg183
 z127 := sizeOf183
 v127 := zeroValue183
 t164 := underlying223
 a164 := isAgg223
 z164 := sizeOf223
 v164 := zeroValue223 }
theorem xB156 : Builder.Extra Tryz.prog Zhx where
 sizeBuilder := by kernel_rfl
 liesBuilder := by kernel_rfl
 t5 := underlying5
 a5 := isAgg5
 z5 := sizeOf5
 v5 := zeroValue5
 infoByte := by kernel_rfl
 cellsByte := by kernel_rfl
 sizeByte := by kernel_rfl
 neB5 := by decide
abbrev encs (s : ByteArray) : Value := .string s
def Zix (l : List ByteArray) (sep : ByteArray) : ByteArray := ⟨(Lib.join (l.map (·.data.toList)) sep.data.toList).toArray⟩
theorem Zwf (M : Nat) : ∀ l : List ByteArray, (∀ x ∈ l, x.size ≤ M) → Lib.lens (l.map (·.data.toList)) ≤ l.length * M
 | [], _ => Nat.zero_le _
 | x :: l, h => by
  have h1 := h x List.mem_cons_self
  have h2 := Zwf M l (fun y hy => h y (List.mem_cons_of_mem _ hy))
  have e : Lib.lens ((x :: l).map (·.data.toList)) = x.size + Lib.lens (l.map (·.data.toList)) := by simp only [Lib.lens, List.map_cons, List.length_cons]; rfl
  rw [e, List.length_cons, Nat.add_mul]; omega
theorem Zjo (M : Nat) (l : List ByteArray) (sep : ByteArray) (h : ∀ x ∈ l, x.size ≤ M) : (Zix l sep).size ≤ l.length * (M + sep.size) := by
 show (Lib.join (l.map (·.data.toList)) sep.data.toList).toArray.size ≤ _
 rw [List.size_toArray]
 rcases l with _ | ⟨x, l⟩
 · exact Nat.zero_le _
 ·
  have h2 := Zwf M (x :: l) h
  rw [List.map_cons, Lib.join_length, List.length_map]
  have e : sep.data.toList.length = sep.size := rfl
  rw [e]
  rw [List.map_cons] at h2
  rw [Nat.mul_add, List.length_cons, Nat.add_mul, Nat.add_mul] at *
  have : sep.size * l.length = l.length * sep.size := Nat.mul_comm _ _
  omega
theorem Qc1 (ad : Option Addr) (c : Nat) (l : List ByteArray) (sep : ByteArray) (hc : l.length ≤ c) (hn : l.length ≤ 1000000) (M : Nat) (hM : ∀ x ∈ l, x.size ≤ M) (hs : l.length * (M + sep.size) ≤ 140737488355328) :
  Gn Tryz.prog 45 [.slice ad l.length c, .string sep] [Row ad (List.map encs l)] (.string (Zix l sep)) := by
 intro X w hX hΦ
 rcases Nat.eq_zero_or_pos l.length with h0 | h0
 ·
  have hl : l = [] := List.eq_nil_of_length_eq_zero h0
  subst hl
  refine (Any.strings_Join_none Zwl xB156 ad c sep w).mono ?_
  rintro e w' ⟨he, hw⟩
  subst hw
  exact ⟨_, [], he, ⟨rfl, rfl⟩, Below.refl _ _, by simp⟩
 ·
  obtain ⟨b, off, cs, T, fr, rfl, _, hb, hj⟩ := hΦ _ (List.Mem.head _) (fun e => by have := congrArg List.length e; rw [List.length_map, List.length_nil] at this; omega)
  refine (Any.strings_Join Zwl xB156 b off c l sep w (fun j x hx => ?_) ?_ oo hc ?_).mono ?_
  ·
   have hjl : j < l.length := by
    rcases Nat.lt_or_ge j l.length with h | h
    · exact h
    · rw [List.getElem?_eq_none h] at hx; cases hx
   have h1 := hj j (by rw [List.length_map]; exact hjl)
   rw [List.getElem?_map, hx] at h1
   unfold World.cell?
   simp only [hb]
   exact h1
  ·
   rcases Nat.lt_or_ge b w.heap.size with h | h
   · exact h
   · rw [Array.getElem?_eq_none h] at hb; cases hb
  ·
   have h1 := Zjo M l sep hM
   have e : (Zix l sep).size = (Lib.join (l.map (·.data.toList)) sep.data.toList).length := by
    show (Lib.join (l.map (·.data.toList)) sep.data.toList).toArray.size = _
    rw [List.size_toArray]
   omega
  ·
   rintro e w' ⟨he, hw⟩
   exact ⟨_, [], he, ⟨rfl, rfl⟩, hw, by simp⟩
end Go.Proofs.YtgkicbaomcmfoaaGreatDoor
