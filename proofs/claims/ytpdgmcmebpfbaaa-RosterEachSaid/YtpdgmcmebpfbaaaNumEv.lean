/- What the program's and the reference's numbers as bytes come to: one plain function of the bytes, for both. -/
import Derived.Test.YtpdgmcmebpfbaaaPx0
import Derived.Test.YtpdgmcmebpfbaaaEvKit
import Derived.Laws.BitsLemmas
import Derived.Lib.Strings
namespace Go.Proofs.Ytpdgmcmebpfbaaa.P
open Go.RowKit Go.Proofs.YtpdgmcmebpfbaaaW.PrintWords Go.Proofs.YtpdgmcmebpfbaaaW.PrintLast
/-- The number of bytes, the lowest first. -/
def le : List Int → Int
 | [] => 0
 | x :: xs => x + 256 * le xs
def Bytes (xs : List Int) : Prop := ∀ x ∈ xs, 0 ≤ x ∧ x < 256
theorem Bytes.drop {xs : List Int} (h : Bytes xs) (i : Nat) : Bytes (xs.drop i) := fun x hx => h x (List.mem_of_mem_drop hx)
theorem drop_cons_i {α : Type} (l : List α) (i : Nat) (h : i < l.length) : l.drop i = l[i] :: l.drop (i + 1) := List.drop_eq_getElem_cons h
end Go.Proofs.Ytpdgmcmebpfbaaa.P
