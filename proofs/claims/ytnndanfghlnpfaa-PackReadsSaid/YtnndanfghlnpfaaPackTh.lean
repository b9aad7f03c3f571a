/- A right state's bytes are not many. -/
import Derived.Test.YtnndanfghlnpfaaPx0
import Derived.Test.YtnndanfghlnpfaaPackEv
namespace Go.Proofs.Ytnndanfghlnpfaa.P
open Go.RowKit Go.Proofs.YtnndanfghlnpfaaW.PrintWords Go.Proofs.YtnndanfghlnpfaaW.PrintLast
structure RightsB (t : ByteArray) (m : List Mk) (u r : List Stp) (g : List Ed) : Prop where
 text : t.size ≤ 4096
 marks : m.length ≤ 16
 names : ∀ x ∈ m, x.f0.size ≤ 8
 ge : g.all okE = true
 ue : u.all okT = true
 re : r.all okT = true
end Go.Proofs.Ytnndanfghlnpfaa.P
