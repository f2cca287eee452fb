/- LsolveRow: a row of limits, each one more than the next, rises by one each, and a ring has no numbers: in plain Lean, out of MLr. -/
import Derived.Test.YtbopadglafbdjaaPXxf8
import Derived.Test.YtbopadglafbdjaaMLr
namespace Go.Proofs.Ytbopadglafbdjaa.Pure
open Go.RowKit Go.Proofs.Ytbopadglafbdjaa.PX Go.Proofs.YtbopadglafbdjaaW.PrintWords Go.Proofs.YtbopadglafbdjaaW.PrintLast

theorem LsolveRow : telamonlaw19_LsolveRow.Pure := fun a0 a1 a2 _ _ => (M.Row a0 a1 a2).ex

end Go.Proofs.Ytbopadglafbdjaa.Pure
