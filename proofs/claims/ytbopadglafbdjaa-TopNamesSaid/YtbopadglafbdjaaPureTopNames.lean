/- telamontop.TopNames answers true: each number of package api is the one that the document gives. No condition. -/
import Derived.Test.YtbopadglafbdjaaPXxf9
namespace Go.Proofs.Ytbopadglafbdjaa.Pure
open Go.RowKit Go.Proofs.Ytbopadglafbdjaa.PX Go.Proofs.YtbopadglafbdjaaW.PrintWords Go.Proofs.YtbopadglafbdjaaW.PrintLast

theorem TopNames : telamontop_TopNames.Pure := rfl

end Go.Proofs.Ytbopadglafbdjaa.Pure
