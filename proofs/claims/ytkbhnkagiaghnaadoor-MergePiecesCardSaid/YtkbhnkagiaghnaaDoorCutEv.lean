/- Texts cut into lines: what the program's iterator hands on and what the reference's loop tells are the same. -/
import Derived.Test.YtkbhnkagiaghnaaDoorPx5
import Derived.Test.YtkbhnkagiaghnaaDoorPx12
import Derived.Test.YtkbhnkagiaghnaaDoorEvKit
import Derived.Lib.Bytealg
namespace Go.Proofs.YtkbhnkagiaghnaaDoor.P
open Go.RowKit Go.Proofs.YtkbhnkagiaghnaaDoorW.PrintWords Go.Proofs.YtkbhnkagiaghnaaDoorW.PrintLast
/-- The lines of a text, what lies before them at hand. -/
def lines : List UInt8 → List UInt8 → List (List UInt8)
 | acc, [] => if acc = [] then [] else [acc]
 | acc, b :: l => if b = 10 then (acc ++ [b]) :: lines [] l else lines (acc ++ [b]) l
end Go.Proofs.YtkbhnkagiaghnaaDoor.P
