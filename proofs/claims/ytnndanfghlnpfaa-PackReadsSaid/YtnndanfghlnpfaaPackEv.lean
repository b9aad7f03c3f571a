/- A state's bytes: the program's and the reference's. -/
import Derived.Test.YtnndanfghlnpfaaPx9
import Derived.Test.YtnndanfghlnpfaaPx0
import Derived.Test.YtnndanfghlnpfaaPx18
import Derived.Test.YtnndanfghlnpfaaRightEv
import Derived.Test.YtnndanfghlnpfaaNumEv
namespace Go.Proofs.Ytnndanfghlnpfaa.P
open Go.RowKit Go.Proofs.YtnndanfghlnpfaaW.PrintWords Go.Proofs.YtnndanfghlnpfaaW.PrintLast
def emB : ByteArray := ⟨#[]⟩
def txtB (s : ByteArray) : ByteArray := put32 (s.size : Int) ++ s
def edB1 : List Ed → ByteArray
 | [] => emB
 | e :: r => ((put32 e.f0 ++ txtB e.f1) ++ txtB e.f2) ++ edB1 r
def edB (l : List Ed) : ByteArray := put16 (l.length : Int) ++ edB1 l
def stB1 : List Stp → ByteArray
 | [] => emB
 | s :: r => edB s.f0 ++ stB1 r
def stB (l : List Stp) : ByteArray := put16 (l.length : Int) ++ stB1 l
def mkB1 : List Mk → ByteArray
 | [] => emB
 | m :: r => (txtB m.f0 ++ put32 m.f1) ++ mkB1 r
def opB (o : Bool) : ByteArray := if o = true then ⟨#[1]⟩ else ⟨#[0]⟩
def headB (t : ByteArray) (m : List Mk) : ByteArray := txtB t ++ put16 (m.length : Int)
def layB (t : ByteArray) (m : List Mk) (u r : List Stp) (o : Bool) (g : List Ed) : ByteArray := ((((headB t m ++ mkB1 m) ++ stB u) ++ stB r) ++ opB o) ++ edB g
/-- What the numbers of a state are held to here. -/
structure LayOk (t : ByteArray) (m : List Mk) (u r : List Stp) (g : List Ed) : Prop where
 ml : m.length ≤ 1000000
 ul : u.length ≤ 1000000
 rl : r.length ≤ 1000000
 gl : g.length ≤ 1000000
 us : ∀ s ∈ u, s.f0.length ≤ 1000000
 rs : ∀ s ∈ r, s.f0.length ≤ 1000000
 size : ∀ o, (layB t m u r o g).size ≤ 1000000000000
end Go.Proofs.Ytnndanfghlnpfaa.P
