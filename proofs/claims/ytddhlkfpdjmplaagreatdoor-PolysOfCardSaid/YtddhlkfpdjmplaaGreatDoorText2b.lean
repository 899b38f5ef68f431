/- Written by a program of ours (gen.py) out of short specifications. By an AI agent. -/
import Derived.Test.YtddhlkfpdjmplaaGreatDoorText2
set_option linter.unusedVariables false
set_option linter.unusedSimpArgs false
set_option maxRecDepth 4000
namespace Go.Proofs.YtddhlkfpdjmplaaGreatDoor
open Go Go.Proofs Go.Fx
attribute [local irreducible] Oper.wp Code.wp wpList Fx.Head wpOp
def TabF : SPred where
  p X w := ∃ g, Tryz.prog.globalNamed "internal/strconv.uint64pow10" = some g ∧ ¬ X g ∧ g < w.heap.size ∧ Lib.TabIs Tryz.prog w "internal/strconv.uint64pow10" .u64 Lib.pow10Tab
  st X X' w w' h hk hs hX := by
    obtain ⟨g, hg, hx, hlt, ht⟩ := h
    refine ⟨g, hg, fun h' => ?_, by omega, ?_⟩
    · rcases hX g h' with h1 | h1
      · exact hx h1
      · omega
    · unfold Lib.TabIs World.var? at *
      simp only [hg, Option.bind_some] at ht ⊢
      rw [hk g hlt hx]; exact ht
theorem below_grow (w : World) (k : Nat) (os : Array Obj) : Go.RowKit.Below w.heap.size w (Sort.grow (w.drewN k) os) := ⟨rfl, rfl, rfl, by simp [Sort.grow, World.drewN], fun b hb => by
  show (w.heap ++ os)[b]? = _
  rw [Array.getElem?_append_left hb]⟩
def dB (n : Nat) : ByteArray := ⟨(Lib.decDigits n).toArray⟩
theorem dB_small {n : Nat} (h : n < 100) : dB n = digS n := by
  unfold dB digS
  split
  · rw [Lib.decDigits_one (by assumption)]
  · rw [Lib.decDigits_two (by assumption) h]
theorem dB_size (n : Nat) : (dB n).size = Lib.nDigits n := by
  show (Lib.decDigits n).toArray.size = _
  rw [List.size_toArray, Lib.decDigits_length]
theorem nDigits_le {k n : Nat} (h : n < 10 ^ (k + 1)) : Lib.nDigits n ≤ k + 1 := by
  induction k generalizing n with
  | zero => rw [Lib.nDigits_small (by simpa using h)]; exact Nat.le_refl _
  | succ k ih =>
    by_cases h1 : n < 10
    · rw [Lib.nDigits_small h1]; omega
    · rw [Lib.nDigits_big h1]
      have := ih (n := n / 10) (by rw [Nat.pow_succ] at h; omega)
      omega
def txtZ (z : Int) : ByteArray := if z < 0 then ⟨#[45]⟩ ++ dB z.natAbs else dB z.natAbs
def txtQ (x : Rat) : ByteArray := if x.den = 1 then txtZ x.num else txtZ x.num ++ ⟨#[47]⟩ ++ dB x.den
theorem size1 (c : UInt8) : (ByteArray.mk #[c]).size = 1 := rfl
theorem C_iFU2 (n : Nat) (hn : n < 18446744073709551616) : CtrW Tryz.prog 199 [.int .u64 (n : Int), .int .i64 10] [TabF] (.string (dB n)) := by
  intro X w hX hΦ
  by_cases h : n < 100
  · refine (C_iFU n h X w hX (fun _ h => nomatch h)).mono ?_
    rintro e w' ⟨v, Ψ, rfl, ⟨rfl, rfl⟩, hb, _⟩
    exact ⟨_, [], rfl, ⟨by rw [dB_small h], rfl⟩, hb, fun _ h => nomatch h⟩
  · obtain ⟨g, hg, _, _, ht⟩ := hΦ TabF (List.Mem.head _)
    refine (K_FU n (by omega) hn w ht).mono ?_
    rintro e w' ⟨rfl, k, os, rfl⟩
    exact ⟨_, [], rfl, ⟨rfl, rfl⟩, below_grow w k os, fun _ h => nomatch h⟩
theorem C_FU2 (n : Nat) (hlt : n < 18446744073709551616) : CtrW Tryz.prog 165 [.int .u64 (n : Int), .int .i64 10] [TabF] (.string (dB n)) := by
  refine fn_intro Tryz.func165 rfl Tryz.ntmps165 nb ?_
  intro S w0 a hS h
  refine gC h (zs (zr (za rfl (zn (zs (zr (zm rfl (zm rfl (zw [_, _] rfl Tryz.call199 (C_iFU2 n hlt) (za rfl (zn (zt ?_)))))))))))); clear h; intro a w h
  refine retV h (results1 h rfl (.tmp rfl)) ?_
  rfl
theorem C_NText2 (n : Nat) (hlt : n < 18446744073709551616) : CtrW Tryz.prog 119 [encN n] [TabF] (.string (dB n)) := by
  refine fn_intro Tryz.func119 rfl Tryz.ntmps119 nb ?_
  intro S w0 a hS h
  refine gC h (zs (zr (zx rfl fun b1 => za rfl (zn (zs (zs (zr (zp (.fieldAddr rfl (fa_38_1 _ _)) (zd rfl mr Tryz.isAgg9 Tryz.sizeOf9 (rs_2_1 _ _) ?_))))))))); clear h; intro a w h
  refine gL h (zp (.binOp rfl rfl (fun _ => run_seql _ _ _ _ _)) (zn ?_)); clear h; intro a w h
  change Code.wp _ _ _ _ _
  refine cond_split h rfl (fun hc10 => ?_) (fun hc10 => (by exfalso; have hb : bigN n = ⟨#[]⟩ := bigN_small (by omega); rw [hb] at hc10; exact absurd hc10 (by decide)))
  refine gC h (zs (zr (zp (.fieldAddr rfl (fa_38_0 _ _)) (zd rfl mr Tryz.isAgg36 Tryz.sizeOf36 (rs_2_0 _ _) ?_)))); clear h; intro a w h
  rw [lowN_small hlt] at h
  refine gL h (zw [_, _] rfl Tryz.call165 (C_FU2 n hlt) (za rfl (zn (zt ?_)))); clear h; intro a w h
  refine retV h (results1 h rfl (.tmp rfl)) ?_
  rfl
end Go.Proofs.YtddhlkfpdjmplaaGreatDoor
