/- The page's example. -/
import Derived.Test.YtnndanfghlnpfaaPx12
import Derived.Test.YtnndanfghlnpfaaEvKit
namespace Go.Proofs.Ytnndanfghlnpfaa.P
open Go.RowKit Go.Proofs.YtnndanfghlnpfaaW.PrintWords Go.Proofs.YtnndanfghlnpfaaW.PrintLast
theorem lives28 : Ev (fun k => sl28lives.f k) true := Ev.of (fun k => sl28lives.mono k) (k := 40) (by decide +kernel)
end Go.Proofs.Ytnndanfghlnpfaa.P
