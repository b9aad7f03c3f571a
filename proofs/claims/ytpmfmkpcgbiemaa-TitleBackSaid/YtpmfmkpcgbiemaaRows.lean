/-
  No cell of these rows narrows 'for every input' (looked for: loops, veiled, ifaces, maps, wideKeys, modest, calm, conditions, laid).
  DERIVED. THE GIVEN ROWS OF THIS SEAT. 3 by the template 'for every input the law returns true; each argument reads behind the call as it read before'; 0 by the template 'total and deterministic' (their statements: YtpmfmkpcgbiemaaTotals.lean).
  GIVEN WITH THE SEED: the statements are not yours to turn. If you find one false, say at which input.
  Laid BY PROGRAM, IN A SANDBOX (cutbox-rows.mjs): the forced cells as the released guide's own fill.sh prints them over the translation 38354ebbc1c19029… (all of the seat's roots in one cut). By AI agents, Wed Nov 11 2026. No macro, syntax, notation, axiom, sorry.
-/
import Derived.Test.YtpmfmkpcgbiemaaChecked
import GoSem.Claim
import GoSem.ClaimJoined
import GoSem.ClaimMapViews
import Derived.JoinedTies
import Derived.KernelRfl
namespace Go.Proofs.Ytpmfmkpcgbiemaa
/- THE CELL 'sum', in the pinned program and in every row, IS THE sha256 OF THE DUMP (.gsa) THAT YtpmfmkpcgbiemaaProg.lean LOADS. Nothing in Lean hashes anything: it is a label: what it is worth is what the hold of that sum in a sandbox is worth. -/
noncomputable def Try.pinned : Pinned := { name := "ytpmfmkpcgbiemaa", sum := "38354ebbc1c190291d3f030bfa91e7e3d4821884ead254d6f89e8fd7dbe47fa9", checked := Try.checked }
namespace Rows
def none {H : Type} : Left H := { results := [], args := [] }

/-- 'styluslaw08.TitleReads': WHATEVER THE INPUT: true; the input reads as it did. -/
def titleReadsSpec : ChangeSpec := { name := "titleReads", fn := fun _ => fun
  | [d] => { results := [.lit (.bool true)], args := [d] }
  | _ => none }
def titleReadsRow : OpenClaim := { program := "ytpmfmkpcgbiemaa", sum := "38354ebbc1c190291d3f030bfa91e7e3d4821884ead254d6f89e8fd7dbe47fa9", func := "stylus/styluslaw08.TitleReads", spec := "titleReads", inPlace := ["internal/bytealg.IndexByteString", "internal/bytealg.IndexString"], named := ["internal/bytealg.MaxLen"], apart := false }
def TitleReadsSaid : Prop := titleReadsRow.holds Try.pinned (OpenSpec.ofChange titleReadsSpec)

/-- ITS FALSE NEIGHBOUR: 'it returns false'. Refute it at one input. -/
def titleReadsWrong : ChangeSpec := { name := "titleReads", fn := fun _ => fun
  | [d] => { results := [.lit (.bool false)], args := [d] }
  | _ => none }
def TitleReadsWrongFalsely : Prop := titleReadsRow.holds Try.pinned (OpenSpec.ofChange titleReadsWrong)

/-- 'styluslaw08.TitleBack': WHATEVER THE INPUT: true; the input reads as it did. -/
def titleBackSpec : ChangeSpec := { name := "titleBack", fn := fun _ => fun
  | [d1, d2, d3] => { results := [.lit (.bool true)], args := [d1, d2, d3] }
  | _ => none }
def titleBackRow : OpenClaim := { program := "ytpmfmkpcgbiemaa", sum := "38354ebbc1c190291d3f030bfa91e7e3d4821884ead254d6f89e8fd7dbe47fa9", func := "stylus/styluslaw08.TitleBack", spec := "titleBack", inPlace := ["internal/bytealg.IndexByteString", "internal/bytealg.IndexString"], named := ["internal/bytealg.MaxLen"], apart := false }
def TitleBackSaid : Prop := titleBackRow.holds Try.pinned (OpenSpec.ofChange titleBackSpec)

/-- ITS FALSE NEIGHBOUR: 'it returns false'. Refute it at one input. -/
def titleBackWrong : ChangeSpec := { name := "titleBack", fn := fun _ => fun
  | [d1, d2, d3] => { results := [.lit (.bool false)], args := [d1, d2, d3] }
  | _ => none }
def TitleBackWrongFalsely : Prop := titleBackRow.holds Try.pinned (OpenSpec.ofChange titleBackWrong)

/-- 'styluslaw08.TitleMakes': WHATEVER THE INPUT: true; the input reads as it did. -/
def titleMakesSpec : ChangeSpec := { name := "titleMakes", fn := fun _ => fun
  | [d1, d2, d3] => { results := [.lit (.bool true)], args := [d1, d2, d3] }
  | _ => none }
def titleMakesRow : OpenClaim := { program := "ytpmfmkpcgbiemaa", sum := "38354ebbc1c190291d3f030bfa91e7e3d4821884ead254d6f89e8fd7dbe47fa9", func := "stylus/styluslaw08.TitleMakes", spec := "titleMakes", inPlace := ["internal/bytealg.IndexByteString", "internal/bytealg.IndexString"], named := ["internal/bytealg.MaxLen"], apart := false }
def TitleMakesSaid : Prop := titleMakesRow.holds Try.pinned (OpenSpec.ofChange titleMakesSpec)

/-- ITS FALSE NEIGHBOUR: 'it returns false'. Refute it at one input. -/
def titleMakesWrong : ChangeSpec := { name := "titleMakes", fn := fun _ => fun
  | [d1, d2, d3] => { results := [.lit (.bool false)], args := [d1, d2, d3] }
  | _ => none }
def TitleMakesWrongFalsely : Prop := titleMakesRow.holds Try.pinned (OpenSpec.ofChange titleMakesWrong)

/- THE SECOND FORM. 'bulk': how many values and letters a reading holds, each counted each time it is reached (what is shared counts as often as it is met; a slice's spare places count too). A statement '..UptoSaid' is the law's where the arguments, and the package variables that the reading takes, are together of bulk at most 1048576: NARROWER than '..Said'. Prove '..Said' where nothing that the law and all that it calls make is longer than what came in: it says more and counts as full. Else prove '..UptoSaid'. A law counts once. -/
mutual
def uptoBulk {H : Type} : DataW H → Nat
  | .lit (.string bytes) => bytes.length + 1
  | .lit _ => 1
  | .nil => 1
  | .ptr d => uptoBulk d + 1
  | .slice elems spare => uptoBulkAll elems + uptoBulkAll spare + 1
  | .agg parts => uptoBulkAll parts + 1
  | .iface _ d => uptoBulk d + 1
  | .map entries => uptoBulkEntries entries + 1
  | .held _ => 1
def uptoBulkAll {H : Type} : List (DataW H) → Nat
  | [] => 0
  | d :: r => uptoBulk d + uptoBulkAll r
def uptoBulkEntries {H : Type} : List (Lit × DataW H) → Nat
  | [] => 0
  | x :: r => uptoBulkEntry x + uptoBulkEntries r
def uptoBulkEntry {H : Type} : Lit × DataW H → Nat
  | (.string bytes, d) => bytes.length + uptoBulk d + 1
  | (_, d) => uptoBulk d + 1
 end
def uptoSmall : (H : Type) → List (DataW H) → Bool := fun _ ds => decide (uptoBulkAll ds ≤ 1048576)
def OpenSpec.upto (s : _root_.Go.ChangeSpec) : _root_.Go.OpenSpec := { _root_.Go.OpenSpec.ofChange s with cond := some uptoSmall }

/-- 'styluslaw08.TitleReads', WHERE WHAT IT READS IS OF BULK AT MOST 1048576: true; the input reads as it did. -/
def titleReadsUptoRow : OpenClaim := { program := "ytpmfmkpcgbiemaa", sum := "38354ebbc1c190291d3f030bfa91e7e3d4821884ead254d6f89e8fd7dbe47fa9", func := "stylus/styluslaw08.TitleReads", spec := "titleReads", inPlace := ["internal/bytealg.IndexByteString", "internal/bytealg.IndexString"], named := ["internal/bytealg.MaxLen"], apart := false, narrowed := true }
def TitleReadsUptoSaid : Prop := titleReadsUptoRow.holds Try.pinned (OpenSpec.upto titleReadsSpec)

/-- 'styluslaw08.TitleBack', WHERE WHAT IT READS IS OF BULK AT MOST 1048576: true; the input reads as it did. -/
def titleBackUptoRow : OpenClaim := { program := "ytpmfmkpcgbiemaa", sum := "38354ebbc1c190291d3f030bfa91e7e3d4821884ead254d6f89e8fd7dbe47fa9", func := "stylus/styluslaw08.TitleBack", spec := "titleBack", inPlace := ["internal/bytealg.IndexByteString", "internal/bytealg.IndexString"], named := ["internal/bytealg.MaxLen"], apart := false, narrowed := true }
def TitleBackUptoSaid : Prop := titleBackUptoRow.holds Try.pinned (OpenSpec.upto titleBackSpec)

/-- 'styluslaw08.TitleMakes', WHERE WHAT IT READS IS OF BULK AT MOST 1048576: true; the input reads as it did. -/
def titleMakesUptoRow : OpenClaim := { program := "ytpmfmkpcgbiemaa", sum := "38354ebbc1c190291d3f030bfa91e7e3d4821884ead254d6f89e8fd7dbe47fa9", func := "stylus/styluslaw08.TitleMakes", spec := "titleMakes", inPlace := ["internal/bytealg.IndexByteString", "internal/bytealg.IndexString"], named := ["internal/bytealg.MaxLen"], apart := false, narrowed := true }
def TitleMakesUptoSaid : Prop := titleMakesUptoRow.holds Try.pinned (OpenSpec.upto titleMakesSpec)

end Rows
end Go.Proofs.Ytpmfmkpcgbiemaa
