/- Written by a program of ours (gen.py) out of short specifications. By an AI agent. -/
import Derived.Test.YtddhlkfpdjmplaaGreatDoorText3
set_option linter.unusedVariables false
set_option linter.unusedSimpArgs false
set_option maxRecDepth 4000
namespace Go.Proofs.YtddhlkfpdjmplaaGreatDoor
open Go Go.Proofs Go.Fx
attribute [local irreducible] Oper.wp Code.wp wpList Fx.Head wpOp
theorem C_SameG (a1 a2 : Option Addr) (c1 c2 : Nat) (x y : Rat) (hx : lenQ x ≤ 300000) (e : y = x) : CtrW Tryz.prog 10 [encQ x, fV y a1 c1 a2 c2] [TabF, Row a1 (List.map encn (dg y.num.natAbs)), Row a2 (List.map encn (dg (y.den - 1)))] (.bool true) := by
  subst e
  refine fn_intro Tryz.func10 rfl Tryz.ntmps10 nb ?_
  intro S w0 a hS h
  refine gC h (zs (zr (zx rfl fun b2 => zx rfl fun b3 => za rfl (zn (zs (yD mixed_YtddhlkfpdjmplaaGreatDoor [0, 2, 1, 3, 4, 5] (floatsOK_none (by kernel_rfl)) (yd rfl rfl mr Tryz.isAgg44 Tryz.sizeOf44 (rd_5_0_5 _ _ _ _ _) ?_))))))); clear h
  refine yd rfl rfl mr Tryz.isAgg56 Tryz.sizeOf56 (rd_3_0_3 _ _ _) ?_
  refine yw [_] rfl rfl Tryz.call55 (C_QTextG y hx) (yw [_] rfl rfl Tryz.call56 (C_rQText _ _ _ _ y (by omega)) (yp rfl (.binOp rfl rfl (fun _ => run_seql _ _ _ _ _)) (yp rfl (.assign rfl) (yn (zt ?_))))); intro a w h
  refine retV h (results1 h rfl (.tmp rfl)) ?_
  exact congrArg Value.bool (by simp)
end Go.Proofs.YtddhlkfpdjmplaaGreatDoor
