/- Written by a program of ours (gen.py) out of short specifications. By an AI agent. -/
import Derived.Test.YtmajjidkkpkhcaaGreatReff
import Derived.Test.YtmajjidkkpkhcaaGreatFxZ
set_option linter.unusedVariables false
set_option linter.unusedSimpArgs false
set_option maxRecDepth 4000
namespace Go.Proofs.YtmajjidkkpkhcaaGreat
open Go Go.Proofs Go.Fx
attribute [local irreducible] Oper.wp Code.wp wpList Fx.Head wpOp
theorem fa_25_0 (b off : Nat) (w : World) : (Instr.fieldAt 25 (.pointer (some ⟨b, off, none⟩)) 0).run Tryz.prog w = .ok (.pointer (some ⟨b, off + 0, none⟩)) w := by
  simp [go_sem]
theorem fa_25_1 (b off : Nat) (w : World) : (Instr.fieldAt 25 (.pointer (some ⟨b, off, none⟩)) 1).run Tryz.prog w = .ok (.pointer (some ⟨b, off + 1, none⟩)) w := by
  simp [go_sem]
theorem cv_23_2 (x : Int) (w : World) : (Go.convert 23 2 (.int .u32 x)).run Tryz.prog w = .ok (.int .i64 (IntKind.i64.wrap x)) w := by
  simp [go_sem]
theorem cv_23_2b (x : Int) (h0 : IntKind.i64.wrap x = x) (w : World) : (Go.convert 23 2 (.int .u32 x)).run Tryz.prog w = .ok (.int .i64 x) w := by
  rw [cv_23_2, h0]
/-- A number as the statement gives it: N divided by D, or by 1. -/
def qv (N D : Int) : Rat := ((N : Int) : Rat) / ((max D 1 : Int) : Rat)
theorem lenQ_qv (N D : Int) (h0 : -9223372036854775808 ≤ N) (h1 : N ≤ 9223372036854775807) (h2 : 0 ≤ D) (h3 : D ≤ 4294967295) : lenQ (qv N D) ≤ 4 := lenQ_of N (max D 1) h0 h1 (by omega) (by omega)
theorem bi_maxu (x y : Int) (w : World) (ty : TypeId) (cs : Array Bool) : (Go.builtin .max #[23, 23] ty cs #[.int .u32 x, .int .u32 y]).run Tryz.prog w = .ok (.value (.int .u32 (max x y))) w := by
  simp [go_sem] <;> (try rw [Int.max_def]) <;> (try split) <;> (try split) <;> (try omega)
abbrev encQ2 (q : Int × Int) : Value := .agg #[.int .i64 q.1, .int .u32 q.2]
/-- The bounds of the statement's numbers. -/
def OkQ (q : Int × Int) : Prop := -9223372036854775808 ≤ q.1 ∧ q.1 ≤ 9223372036854775807 ∧ 0 ≤ q.2 ∧ q.2 ≤ 4294967295
def qvp (q : Int × Int) : Rat := qv q.1 q.2
theorem lenQ_qvp {q : Int × Int} (h : OkQ q) : lenQ (qvp q) ≤ 4 := lenQ_qv _ _ h.1 h.2.1 h.2.2.1 h.2.2.2

theorem C_qOf (N D : Int) (h0 : -9223372036854775808 ≤ N) (h1 : N ≤ 9223372036854775807) (h2 : 0 ≤ D) (h3 : D ≤ 4294967295) : CtrV Tryz.prog 9 [.agg #[.int .i64 N, .int .u32 D]] (encQ (qv N D)) := by
  refine fn_intro Tryz.func9 rfl Tryz.ntmps9 nb ?_
  intro S w0 a hS h
  refine gC h (zs (zr (zx rfl fun b1 => zz zeroQ fun b2 => zn (zs (zr (zp (.fieldAddr rfl (fa_25_0 _ _)) (zd rfl mr Tryz.isAgg2 Tryz.sizeOf2 (rs_2_0 _ _) ?_))))))); clear h; intro a w h
  refine gL h (zp (.fieldAddr rfl (fa_25_1 _ _)) (zd rfl mr Tryz.isAgg23 Tryz.sizeOf23 (rs_2_1 _ _) ?_)); clear h; intro a w h
  refine gL h (zp (.builtin [_, _] rfl (fun w ty cs => bi_maxu _ _ w ty cs)) (zp (.convert rfl (cv_23_2b _ (wrap_i64 _ (by omega) (by omega)))) (zv [_, _] rfl Tryz.call18 (C_QOf _ _ (by omega) (by omega) (by omega) (by omega) (by omega)) ?_))); clear h; intro a w h
  have hl12 := lenQ_of (N) (max D 1) (by omega) (by omega) (by omega) (by omega)
  refine gL h (zm rfl (zp (.extract rfl (fun _ => rfl)) (zp (.extract rfl (fun _ => rfl)) (zz zeroQ fun b3 => zt' rfl rfl (st_5_0_5 _ _ _ _ _ _ _ _ _ _) uu Tryz.sizeOf48 rfl nb rfl ?_)))); clear h; intro a w h
  refine gL h (za rfl (zn (zs (zr (zd rfl mr Tryz.isAgg48 Tryz.sizeOf48 (rd_5_0_5 _ _ _ _ _) ?_))))); clear h; intro a w h
  refine gL h (zt' rfl rfl (st_5_0_5 _ _ _ _ _ _ _ _ _ _) uu Tryz.sizeOf48 rfl nb rfl ?_); clear h; intro a w h
  refine wpList_nil (wp_ret ?_)
  refine retV h (results1 h rfl (.cell rfl mr Tryz.isAgg48 Tryz.sizeOf48 (rd_5_0_5 _ _ _ _ _))) ?_
  rfl

theorem C_qRef (N D : Int) (h0 : -9223372036854775808 ≤ N) (h1 : N ≤ 9223372036854775807) (h2 : 0 ≤ D) (h3 : D ≤ 4294967295) : Ctr Tryz.prog 6 [.agg #[.int .i64 N, .int .u32 D]] [] (PostF (qv N D)) := by
  refine fn_intro Tryz.func6 rfl Tryz.ntmps6 nb ?_
  intro S w0 a hS h
  refine gC h (zs (zr (zx rfl fun b1 => zz zeroF fun b2 => zn (zs (zr (zp (.fieldAddr rfl (fa_25_0 _ _)) (zd rfl mr Tryz.isAgg2 Tryz.sizeOf2 (rs_2_0 _ _) ?_))))))); clear h; intro a w h
  refine gL h (zp (.fieldAddr rfl (fa_25_1 _ _)) (zd rfl mr Tryz.isAgg23 Tryz.sizeOf23 (rs_2_1 _ _) ?_)); clear h; intro a w h
  refine gL h (zp (.builtin [_, _] rfl (fun w ty cs => bi_maxu _ _ w ty cs)) (zp (.convert rfl (cv_23_2b _ (wrap_i64 _ (by omega) (by omega)))) (zf [_, _] rfl Tryz.call20 (C_fOf N (max D 1) (by omega) (by omega) (by omega) (by omega)) ?_))); clear h; rintro v9 Ψ9 ⟨ad9, c9, bd9, d9, rfl, hle9, hlf9, rfl⟩ a w h
  have hl9 := lenQ_of N (max D 1) (by omega) (by omega) (by omega) (by omega)
  refine gL h (zt' rfl rfl (st_3_0_3 _ _ _ _ _ _) uu Tryz.sizeOf33 rfl nb rfl ?_); clear h; intro a w h
  refine wpList_nil (wp_ret ?_)
  refine ret_of (Ψ := [Row ad9 (List.map encn (dg (((N : Int) : Rat) / ((max D 1 : Int) : Rat)).num.natAbs)), Row bd9 (List.map encn (dg ((((N : Int) : Rat) / ((max D 1 : Int) : Rat)).den - 1)))]) h (results1 h rfl (.cell rfl mr Tryz.isAgg33 Tryz.sizeOf33 (rd_3_0_3 _ _ _))) ?_ (by simp)
  unfold qv; exact ⟨ad9, c9, bd9, d9, rfl, hle9, hlf9, rfl⟩
end Go.Proofs.YtmajjidkkpkhcaaGreat
