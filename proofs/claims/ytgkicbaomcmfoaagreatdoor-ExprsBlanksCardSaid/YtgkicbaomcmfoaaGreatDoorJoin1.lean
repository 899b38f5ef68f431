/- Written by a program of ours (gen.py) out of short specifications. By an AI agent. -/
import Derived.Test.YtgkicbaomcmfoaaGreatDoorLaw08a
import Derived.Test.YtgkicbaomcmfoaaGreatDoorFxG
import Derived.Shelf.Strings.OnBuilder
set_option linter.unusedVariables false
set_option linter.unusedSimpArgs false
set_option maxRecDepth 4000
namespace Go.Proofs.YtgkicbaomcmfoaaGreatDoor
open Go Go.Proofs Go.Fx Go.Shelf Go.RowKit
def lays156_ren : Go.Shelf.Ren := ⟨fun | 156 => 45 | 165 => 77 | 166 => 78 | 169 => 79 | 240 => 118 | 241 => 119 | 276 => 165 | 277 => 166 | n => n, fun | 31 => 87 | 9 => 9 | 3 => 3 | 4 => 4 | 0 => 0 | 20 => 20 | 72 => 130 | 76 => 134 | 70 => 128 | 37 => 35 | 75 => 133 | 127 => 183 | 164 => 223 | 5 => 5 | 80 => 136 | n => n, fun | n => n⟩
theorem lays156 : Go.Proofs.Lays.n156 Tryz.prog lays156_ren := {
  mixed := by kernel_rfl
  f156 := Tryz.func45.trans (congrArg some (by kernel_rfl))
  f165 := Tryz.func77.trans (congrArg some (by kernel_rfl))
  f166 := Tryz.func78.trans (congrArg some (by kernel_rfl))
  f169 := Tryz.func79.trans (congrArg some (by kernel_rfl))
  f240 := Tryz.func118.trans (congrArg some (by kernel_rfl))
  f241 := Tryz.func119.trans (congrArg some (by kernel_rfl))
  f276 := Tryz.func165.trans (congrArg some (by kernel_rfl))
  f277 := Tryz.func166.trans (congrArg some (by kernel_rfl))
  t0 := Tryz.underlying0
  a0 := Tryz.isAgg0
  z0 := Tryz.sizeOf0
  v0 := Tryz.zeroValue0
  t3 := Tryz.underlying3
  a3 := Tryz.isAgg3
  z3 := Tryz.sizeOf3
  v3 := Tryz.zeroValue3
  t4 := Tryz.underlying4
  a4 := Tryz.isAgg4
  z4 := Tryz.sizeOf4
  v4 := Tryz.zeroValue4
  t9 := Tryz.underlying9
  a9 := Tryz.isAgg9
  z9 := Tryz.sizeOf9
  v9 := Tryz.zeroValue9
  t20 := Tryz.underlying20
  a20 := Tryz.isAgg20
  z20 := Tryz.sizeOf20
  v20 := Tryz.zeroValue20
  t31 := Tryz.underlying87
  a31 := Tryz.isAgg87
  z31 := Tryz.sizeOf87
  v31 := Tryz.zeroValue87
  t37 := Tryz.underlying35
  a37 := Tryz.isAgg35
  z37 := Tryz.sizeOf35
  v37 := Tryz.zeroValue35
  t70 := Tryz.underlying128
  a70 := Tryz.isAgg128
  z70 := Tryz.sizeOf128
  v70 := Tryz.zeroValue128
  t72 := Tryz.underlying130
  a72 := Tryz.isAgg130
  z72 := Tryz.sizeOf130
  v72 := Tryz.zeroValue130
  t75 := Tryz.underlying133
  a75 := Tryz.isAgg133
  z75 := Tryz.sizeOf133
  v75 := Tryz.zeroValue133
  t76 := Tryz.underlying134
  a76 := Tryz.isAgg134
  z76 := Tryz.sizeOf134
  v76 := Tryz.zeroValue134
  t127 := Tryz.underlying183
  a127 := Tryz.isAgg183
  z127 := Tryz.sizeOf183
  v127 := Tryz.zeroValue183
  t164 := Tryz.underlying223
  a164 := Tryz.isAgg223
  z164 := Tryz.sizeOf223
  v164 := Tryz.zeroValue223 }
theorem xB156 : Builder.Extra Tryz.prog lays156_ren where
  sizeBuilder := by kernel_rfl
  liesBuilder := by kernel_rfl
  t5 := Tryz.underlying5
  a5 := Tryz.isAgg5
  z5 := Tryz.sizeOf5
  v5 := Tryz.zeroValue5
  infoByte := by kernel_rfl
  cellsByte := by kernel_rfl
  sizeByte := by kernel_rfl
  neB5 := by decide
abbrev encs (s : ByteArray) : Value := .string s
def joinB (l : List ByteArray) (sep : ByteArray) : ByteArray := ⟨(Lib.join (l.map (·.data.toList)) sep.data.toList).toArray⟩
theorem lens_le (M : Nat) : ∀ l : List ByteArray, (∀ x ∈ l, x.size ≤ M) → Lib.lens (l.map (·.data.toList)) ≤ l.length * M
  | [], _ => Nat.zero_le _
  | x :: l, h => by
    have h1 := h x List.mem_cons_self
    have h2 := lens_le M l (fun y hy => h y (List.mem_cons_of_mem _ hy))
    have e : Lib.lens ((x :: l).map (·.data.toList)) = x.size + Lib.lens (l.map (·.data.toList)) := by simp only [Lib.lens, List.map_cons, List.length_cons]; rfl
    rw [e, List.length_cons, Nat.add_mul]; omega
theorem joinB_size (M : Nat) (l : List ByteArray) (sep : ByteArray) (h : ∀ x ∈ l, x.size ≤ M) : (joinB l sep).size ≤ l.length * (M + sep.size) := by
  show (Lib.join (l.map (·.data.toList)) sep.data.toList).toArray.size ≤ _
  rw [List.size_toArray]
  rcases l with _ | ⟨x, l⟩
  · exact Nat.zero_le _
  · have h2 := lens_le M (x :: l) h
    rw [List.map_cons, Lib.join_length, List.length_map]
    have e : sep.data.toList.length = sep.size := rfl
    rw [e]
    rw [List.map_cons] at h2
    rw [Nat.mul_add, List.length_cons, Nat.add_mul, Nat.add_mul] at *
    have : sep.size * l.length = l.length * sep.size := Nat.mul_comm _ _
    omega
theorem C_Join (ad : Option Addr) (c : Nat) (l : List ByteArray) (sep : ByteArray) (hc : l.length ≤ c) (hn : l.length ≤ 1000000) (M : Nat) (hM : ∀ x ∈ l, x.size ≤ M) (hs : l.length * (M + sep.size) ≤ 140737488355328) :
    CtrW Tryz.prog 45 [.slice ad l.length c, .string sep] [Row ad (List.map encs l)] (.string (joinB l sep)) := by
  intro X w hX hΦ
  rcases Nat.eq_zero_or_pos l.length with h0 | h0
  · have hl : l = [] := List.eq_nil_of_length_eq_zero h0
    subst hl
    refine (Any.strings_Join_none lays156 xB156 ad c sep w).mono ?_
    rintro e w' ⟨he, hw⟩
    subst hw
    exact ⟨_, [], he, ⟨rfl, rfl⟩, Below.refl _ _, by simp⟩
  · obtain ⟨b, off, cs, T, fr, rfl, _, hb, hj⟩ := hΦ _ (List.Mem.head _) (fun e => by have := congrArg List.length e; rw [List.length_map, List.length_nil] at this; omega)
    refine (Any.strings_Join lays156 xB156 b off c l sep w (fun j x hx => ?_) ?_ (by omega) hc ?_).mono ?_
    · have hjl : j < l.length := by
        rcases Nat.lt_or_ge j l.length with h | h
        · exact h
        · rw [List.getElem?_eq_none h] at hx; cases hx
      have h1 := hj j (by rw [List.length_map]; exact hjl)
      rw [List.getElem?_map, hx] at h1
      unfold World.cell?
      simp only [hb]
      exact h1
    · rcases Nat.lt_or_ge b w.heap.size with h | h
      · exact h
      · rw [Array.getElem?_eq_none h] at hb; cases hb
    · have h1 := joinB_size M l sep hM
      have e : (joinB l sep).size = (Lib.join (l.map (·.data.toList)) sep.data.toList).length := by
        show (Lib.join (l.map (·.data.toList)) sep.data.toList).toArray.size = _
        rw [List.size_toArray]
      omega
    · rintro e w' ⟨he, hw⟩
      exact ⟨_, [], he, ⟨rfl, rfl⟩, hw, by simp⟩
end Go.Proofs.YtgkicbaomcmfoaaGreatDoor
