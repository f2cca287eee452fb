/- LevelSteps: n times one more is n more: in plain Lean, out of MSt. -/
import Derived.Test.YtbopadglafbdjaaPXxf12
import Derived.Test.YtbopadglafbdjaaMSt
namespace Go.Proofs.Ytbopadglafbdjaa.Pure
open Go.RowKit Go.Proofs.Ytbopadglafbdjaa.PX Go.Proofs.YtbopadglafbdjaaW.PrintWords Go.Proofs.YtbopadglafbdjaaW.PrintLast

theorem LevelSteps : telamonlaw1_LevelSteps.Pure := fun a0 a1 _ _ => (M.Steps a0 a1).ex

end Go.Proofs.Ytbopadglafbdjaa.Pure
