/- LevelWide: a level may have 64 variables, no more: in plain Lean, out of MWd. -/
import Derived.Test.YtbopadglafbdjaaPXxf13
import Derived.Test.YtbopadglafbdjaaMWd
namespace Go.Proofs.Ytbopadglafbdjaa.Pure
open Go.RowKit Go.Proofs.Ytbopadglafbdjaa.PX Go.Proofs.YtbopadglafbdjaaW.PrintWords Go.Proofs.YtbopadglafbdjaaW.PrintLast

theorem LevelWide : telamonlaw1_LevelWide.Pure := fun a0 a1 _ _ => (M.Wide a0 a1).ex

end Go.Proofs.Ytbopadglafbdjaa.Pure
