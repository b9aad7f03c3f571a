/- What an edit makes of a text, by the program and by the reference: one plain function. -/
import Derived.Test.YtbcokholddlpbaaPx0
import Derived.Test.YtbcokholddlpbaaEvKit
namespace Go.Proofs.Ytbcokholddlpbaa.P
open Go.RowKit Go.Proofs.YtbcokholddlpbaaW.PrintWords Go.Proofs.YtbcokholddlpbaaW.PrintLast

/-! Marks. -/
end Go.Proofs.Ytbcokholddlpbaa.P
