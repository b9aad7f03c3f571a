/- Texts that are runes throughout: their pieces between edges are, and what is put together of such pieces is. -/
import Derived.Test.YtnndanfghlnpfaaPx0
import Derived.Test.YtnndanfghlnpfaaUtfEv
namespace Go.Proofs.Ytnndanfghlnpfaa.P
open Go.RowKit Go.Proofs.YtnndanfghlnpfaaW.PrintWords Go.Proofs.YtnndanfghlnpfaaW.PrintLast
/-- A byte that goes on. -/
def mid (x : Int) : Prop := 128 ≤ x ∧ x ≤ 191
instance (x : Int) : Decidable (mid x) := by unfold mid; infer_instance
/-- Runes lead from a to b. -/
def walks (s : ByteArray) : Nat → Nat → Nat → Prop
 | 0, a, b => a = b
 | d + 1, a, b => a = b ∨ (a < s.size ∧ (tk s (a : Int)).2 ≠ 0 ∧ walks s d (a + (tk s (a : Int)).2.toNat) b)
theorem tl {a b : ByteArray} : a.toList = b.toList ↔ a = b := by
 constructor
 ·intro h
  rw [ByteArray.toList_eq, ByteArray.toList_eq] at h
  exact ByteArray.ext (Array.ext' h)
 ·rintro rfl; rfl
end Go.Proofs.Ytnndanfghlnpfaa.P
