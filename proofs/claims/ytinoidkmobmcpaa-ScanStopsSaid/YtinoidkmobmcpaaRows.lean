/-
  No cell of these rows narrows 'for every input' (looked for: loops, veiled, ifaces, maps, wideKeys, modest, calm, conditions, laid).
  DERIVED. THE GIVEN ROWS OF THIS SEAT. 5 by the template 'for every input the law returns true; each argument reads behind the call as it read before'; 0 by the template 'total and deterministic' (their statements: YtinoidkmobmcpaaTotals.lean).
  GIVEN WITH THE SEED: the statements are not yours to turn. If you find one false, say at which input.
  Laid BY PROGRAM, IN A SANDBOX (cutbox-rows.mjs): the forced cells as the released guide's own fill.sh prints them over the translation be6ca46dfa03799b… (all of the seat's roots in one cut). By AI agents, Wed Nov 11 2026. No macro, syntax, notation, axiom, sorry.
-/
import Derived.Test.YtinoidkmobmcpaaChecked
import GoSem.Claim
import GoSem.ClaimJoined
import GoSem.ClaimMapViews
import Derived.JoinedTies
import Derived.KernelRfl
namespace Go.Proofs.Ytinoidkmobmcpaa
/- THE CELL 'sum', in the pinned program and in every row, IS THE sha256 OF THE DUMP (.gsa) THAT YtinoidkmobmcpaaProg.lean LOADS. Nothing in Lean hashes anything: it is a label: what it is worth is what the hold of that sum in a sandbox is worth. -/
noncomputable def Try.pinned : Pinned := { name := "ytinoidkmobmcpaa", sum := "be6ca46dfa03799b75d23f3a304ff39dfad2c6558062c7e5d5973adaf7337bd3", checked := Try.checked }
namespace Rows
def none {H : Type} : Left H := { results := [], args := [] }

/-- 'styluslaw13.ScanRuns': WHATEVER THE INPUT: true; the input reads as it did. -/
def scanRunsSpec : ChangeSpec := { name := "scanRuns", fn := fun _ => fun
  | [d1, d2, d3] => { results := [.lit (.bool true)], args := [d1, d2, d3] }
  | _ => none }
def scanRunsRow : OpenClaim := { program := "ytinoidkmobmcpaa", sum := "be6ca46dfa03799b75d23f3a304ff39dfad2c6558062c7e5d5973adaf7337bd3", func := "stylus/styluslaw13.ScanRuns", spec := "scanRuns", unfollowed := true, recurses := true, apart := false }
def ScanRunsSaid : Prop := scanRunsRow.holds Try.pinned (OpenSpec.ofChange scanRunsSpec)

/-- ITS FALSE NEIGHBOUR: 'it returns false'. Refute it at one input. -/
def scanRunsWrong : ChangeSpec := { name := "scanRuns", fn := fun _ => fun
  | [d1, d2, d3] => { results := [.lit (.bool false)], args := [d1, d2, d3] }
  | _ => none }
def ScanRunsWrongFalsely : Prop := scanRunsRow.holds Try.pinned (OpenSpec.ofChange scanRunsWrong)

/-- 'styluslaw13.ScanFinds': WHATEVER THE INPUT: true; the input reads as it did. -/
def scanFindsSpec : ChangeSpec := { name := "scanFinds", fn := fun _ => fun
  | [d1, d2, d3] => { results := [.lit (.bool true)], args := [d1, d2, d3] }
  | _ => none }
def scanFindsRow : OpenClaim := { program := "ytinoidkmobmcpaa", sum := "be6ca46dfa03799b75d23f3a304ff39dfad2c6558062c7e5d5973adaf7337bd3", func := "stylus/styluslaw13.ScanFinds", spec := "scanFinds", unfollowed := true, recurses := true, apart := false }
def ScanFindsSaid : Prop := scanFindsRow.holds Try.pinned (OpenSpec.ofChange scanFindsSpec)

/-- ITS FALSE NEIGHBOUR: 'it returns false'. Refute it at one input. -/
def scanFindsWrong : ChangeSpec := { name := "scanFinds", fn := fun _ => fun
  | [d1, d2, d3] => { results := [.lit (.bool false)], args := [d1, d2, d3] }
  | _ => none }
def ScanFindsWrongFalsely : Prop := scanFindsRow.holds Try.pinned (OpenSpec.ofChange scanFindsWrong)

/-- 'styluslaw13.ScanStops': WHATEVER THE INPUT: true; the input reads as it did. -/
def scanStopsSpec : ChangeSpec := { name := "scanStops", fn := fun _ => fun
  | [d1, d2] => { results := [.lit (.bool true)], args := [d1, d2] }
  | _ => none }
def scanStopsRow : OpenClaim := { program := "ytinoidkmobmcpaa", sum := "be6ca46dfa03799b75d23f3a304ff39dfad2c6558062c7e5d5973adaf7337bd3", func := "stylus/styluslaw13.ScanStops", spec := "scanStops", unfollowed := true, recurses := true, apart := false }
def ScanStopsSaid : Prop := scanStopsRow.holds Try.pinned (OpenSpec.ofChange scanStopsSpec)

/-- ITS FALSE NEIGHBOUR: 'it returns false'. Refute it at one input. -/
def scanStopsWrong : ChangeSpec := { name := "scanStops", fn := fun _ => fun
  | [d1, d2] => { results := [.lit (.bool false)], args := [d1, d2] }
  | _ => none }
def ScanStopsWrongFalsely : Prop := scanStopsRow.holds Try.pinned (OpenSpec.ofChange scanStopsWrong)

/-- 'styluslaw13.ScanFills': WHATEVER THE INPUT: true; the input reads as it did. -/
def scanFillsSpec : ChangeSpec := { name := "scanFills", fn := fun _ => fun
  | [d] => { results := [.lit (.bool true)], args := [d] }
  | _ => none }
def scanFillsRow : OpenClaim := { program := "ytinoidkmobmcpaa", sum := "be6ca46dfa03799b75d23f3a304ff39dfad2c6558062c7e5d5973adaf7337bd3", func := "stylus/styluslaw13.ScanFills", spec := "scanFills", unfollowed := true, recurses := true, apart := false }
def ScanFillsSaid : Prop := scanFillsRow.holds Try.pinned (OpenSpec.ofChange scanFillsSpec)

/-- ITS FALSE NEIGHBOUR: 'it returns false'. Refute it at one input. -/
def scanFillsWrong : ChangeSpec := { name := "scanFills", fn := fun _ => fun
  | [d] => { results := [.lit (.bool false)], args := [d] }
  | _ => none }
def ScanFillsWrongFalsely : Prop := scanFillsRow.holds Try.pinned (OpenSpec.ofChange scanFillsWrong)

/-- 'styluslaw13.ScanAnys': WHATEVER THE INPUT: true; the input reads as it did. -/
def scanAnysSpec : ChangeSpec := { name := "scanAnys", fn := fun _ => fun
  | [d] => { results := [.lit (.bool true)], args := [d] }
  | _ => none }
def scanAnysRow : OpenClaim := { program := "ytinoidkmobmcpaa", sum := "be6ca46dfa03799b75d23f3a304ff39dfad2c6558062c7e5d5973adaf7337bd3", func := "stylus/styluslaw13.ScanAnys", spec := "scanAnys", unfollowed := true, recurses := true, apart := false }
def ScanAnysSaid : Prop := scanAnysRow.holds Try.pinned (OpenSpec.ofChange scanAnysSpec)

/-- ITS FALSE NEIGHBOUR: 'it returns false'. Refute it at one input. -/
def scanAnysWrong : ChangeSpec := { name := "scanAnys", fn := fun _ => fun
  | [d] => { results := [.lit (.bool false)], args := [d] }
  | _ => none }
def ScanAnysWrongFalsely : Prop := scanAnysRow.holds Try.pinned (OpenSpec.ofChange scanAnysWrong)

/- THE SECOND FORM. 'bulk': how many values and letters a reading holds, each counted each time it is reached (what is shared counts as often as it is met; a slice's spare places count too). A statement '..UptoSaid' is the law's where the arguments, and the package variables that the reading takes, are together of bulk at most 1048576: NARROWER than '..Said'. Prove '..Said' where nothing that the law and all that it calls make is longer than what came in: it says more and counts as full. Else prove '..UptoSaid'. A law counts once. -/
mutual
def uptoBulk {H : Type} : DataW H → Nat
  | .lit (.string bytes) => bytes.length + 1
  | .lit _ => 1
  | .nil => 1
  | .ptr d => uptoBulk d + 1
  | .slice elems spare => uptoBulkAll elems + uptoBulkAll spare + 1
  | .agg parts => uptoBulkAll parts + 1
  | .iface _ d => uptoBulk d + 1
  | .map entries => uptoBulkEntries entries + 1
  | .held _ => 1
def uptoBulkAll {H : Type} : List (DataW H) → Nat
  | [] => 0
  | d :: r => uptoBulk d + uptoBulkAll r
def uptoBulkEntries {H : Type} : List (Lit × DataW H) → Nat
  | [] => 0
  | x :: r => uptoBulkEntry x + uptoBulkEntries r
def uptoBulkEntry {H : Type} : Lit × DataW H → Nat
  | (.string bytes, d) => bytes.length + uptoBulk d + 1
  | (_, d) => uptoBulk d + 1
 end
def uptoSmall : (H : Type) → List (DataW H) → Bool := fun _ ds => decide (uptoBulkAll ds ≤ 1048576)
def OpenSpec.upto (s : _root_.Go.ChangeSpec) : _root_.Go.OpenSpec := { _root_.Go.OpenSpec.ofChange s with cond := some uptoSmall }

/-- 'styluslaw13.ScanRuns', WHERE WHAT IT READS IS OF BULK AT MOST 1048576: true; the input reads as it did. -/
def scanRunsUptoRow : OpenClaim := { program := "ytinoidkmobmcpaa", sum := "be6ca46dfa03799b75d23f3a304ff39dfad2c6558062c7e5d5973adaf7337bd3", func := "stylus/styluslaw13.ScanRuns", spec := "scanRuns", unfollowed := true, recurses := true, apart := false, narrowed := true }
def ScanRunsUptoSaid : Prop := scanRunsUptoRow.holds Try.pinned (OpenSpec.upto scanRunsSpec)

/-- 'styluslaw13.ScanFinds', WHERE WHAT IT READS IS OF BULK AT MOST 1048576: true; the input reads as it did. -/
def scanFindsUptoRow : OpenClaim := { program := "ytinoidkmobmcpaa", sum := "be6ca46dfa03799b75d23f3a304ff39dfad2c6558062c7e5d5973adaf7337bd3", func := "stylus/styluslaw13.ScanFinds", spec := "scanFinds", unfollowed := true, recurses := true, apart := false, narrowed := true }
def ScanFindsUptoSaid : Prop := scanFindsUptoRow.holds Try.pinned (OpenSpec.upto scanFindsSpec)

/-- 'styluslaw13.ScanStops', WHERE WHAT IT READS IS OF BULK AT MOST 1048576: true; the input reads as it did. -/
def scanStopsUptoRow : OpenClaim := { program := "ytinoidkmobmcpaa", sum := "be6ca46dfa03799b75d23f3a304ff39dfad2c6558062c7e5d5973adaf7337bd3", func := "stylus/styluslaw13.ScanStops", spec := "scanStops", unfollowed := true, recurses := true, apart := false, narrowed := true }
def ScanStopsUptoSaid : Prop := scanStopsUptoRow.holds Try.pinned (OpenSpec.upto scanStopsSpec)

/-- 'styluslaw13.ScanFills', WHERE WHAT IT READS IS OF BULK AT MOST 1048576: true; the input reads as it did. -/
def scanFillsUptoRow : OpenClaim := { program := "ytinoidkmobmcpaa", sum := "be6ca46dfa03799b75d23f3a304ff39dfad2c6558062c7e5d5973adaf7337bd3", func := "stylus/styluslaw13.ScanFills", spec := "scanFills", unfollowed := true, recurses := true, apart := false, narrowed := true }
def ScanFillsUptoSaid : Prop := scanFillsUptoRow.holds Try.pinned (OpenSpec.upto scanFillsSpec)

/-- 'styluslaw13.ScanAnys', WHERE WHAT IT READS IS OF BULK AT MOST 1048576: true; the input reads as it did. -/
def scanAnysUptoRow : OpenClaim := { program := "ytinoidkmobmcpaa", sum := "be6ca46dfa03799b75d23f3a304ff39dfad2c6558062c7e5d5973adaf7337bd3", func := "stylus/styluslaw13.ScanAnys", spec := "scanAnys", unfollowed := true, recurses := true, apart := false, narrowed := true }
def ScanAnysUptoSaid : Prop := scanAnysUptoRow.holds Try.pinned (OpenSpec.upto scanAnysSpec)

end Rows
end Go.Proofs.Ytinoidkmobmcpaa
