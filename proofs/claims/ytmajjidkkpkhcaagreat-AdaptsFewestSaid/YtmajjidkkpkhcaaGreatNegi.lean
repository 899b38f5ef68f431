/- Written by a program of ours (gen.py) out of short specifications. By an AI agent. -/
import Derived.Test.YtmajjidkkpkhcaaGreatCmp1
import Derived.Test.YtmajjidkkpkhcaaGreatFxZ
set_option linter.unusedVariables false
set_option linter.unusedSimpArgs false
set_option maxRecDepth 4000
namespace Go.Proofs.YtmajjidkkpkhcaaGreat
open Go Go.Proofs Go.Fx
attribute [local irreducible] Oper.wp Code.wp wpList Fx.Head wpOp

theorem run_negi (x : Int) (h0 : -9223372036854775807 ≤ x) (h1 : x ≤ 9223372036854775807) (w : World) : (Op.unary .neg (.int .i64 x)).run Tryz.prog w = .ok (.int .i64 (-x)) w := by
  have : (Op.unary .neg (.int .i64 x)).run Tryz.prog w = .ok (.int .i64 (IntKind.i64.wrap (0 - x))) w := by simp [Op.unary, Op.intArith]
  rw [this, wrap_i64 _ (by omega) (by omega)]; congr 2; omega
end Go.Proofs.YtmajjidkkpkhcaaGreat
