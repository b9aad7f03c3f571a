/-
  No cell of these rows narrows 'for every input' (looked for: loops, veiled, ifaces, maps, wideKeys, modest, calm, conditions, laid).
  DERIVED. THE GIVEN ROWS OF THIS SEAT. 4 by the template 'for every input the law returns true; each argument reads behind the call as it read before'; 0 by the template 'total and deterministic' (their statements: YtgabhndhnjedpaaTotals.lean).
  GIVEN WITH THE SEED: the statements are not yours to turn. If you find one false, say at which input.
  Laid BY PROGRAM, IN A SANDBOX (cutbox-rows.mjs): the forced cells as the released guide's own fill.sh prints them over the translation 6f9f5ab5037e62ce… (all of the seat's roots in one cut). By AI agents, Wed Nov 11 2026. No macro, syntax, notation, axiom, sorry.
-/
import Derived.Test.YtgabhndhnjedpaaChecked
import GoSem.Claim
import GoSem.ClaimJoined
import GoSem.ClaimMapViews
import Derived.JoinedTies
import Derived.KernelRfl
namespace Go.Proofs.Ytgabhndhnjedpaa
/- THE CELL 'sum', in the pinned program and in every row, IS THE sha256 OF THE DUMP (.gsa) THAT YtgabhndhnjedpaaProg.lean LOADS. Nothing in Lean hashes anything: it is a label: what it is worth is what the hold of that sum in a sandbox is worth. -/
noncomputable def Try.pinned : Pinned := { name := "ytgabhndhnjedpaa", sum := "6f9f5ab5037e62ce915fea9a0cbfc3cbe9d4518f1b269c26886f951b515892bc", checked := Try.checked }
namespace Rows
def none {H : Type} : Left H := { results := [], args := [] }

/-- 'styluslaw14.OpcodeBytes': WHATEVER THE INPUT: true; the input reads as it did. -/
def opcodeBytesSpec : ChangeSpec := { name := "opcodeBytes", fn := fun _ => fun
  | [d] => { results := [.lit (.bool true)], args := [d] }
  | _ => none }
def opcodeBytesRow : OpenClaim := { program := "ytgabhndhnjedpaa", sum := "6f9f5ab5037e62ce915fea9a0cbfc3cbe9d4518f1b269c26886f951b515892bc", func := "stylus/styluslaw14.OpcodeBytes", spec := "opcodeBytes", unfollowed := true, recurses := true, apart := false }
def OpcodeBytesSaid : Prop := opcodeBytesRow.holds Try.pinned (OpenSpec.ofChange opcodeBytesSpec)

/-- ITS FALSE NEIGHBOUR: 'it returns false'. Refute it at one input. -/
def opcodeBytesWrong : ChangeSpec := { name := "opcodeBytes", fn := fun _ => fun
  | [d] => { results := [.lit (.bool false)], args := [d] }
  | _ => none }
def OpcodeBytesWrongFalsely : Prop := opcodeBytesRow.holds Try.pinned (OpenSpec.ofChange opcodeBytesWrong)

/-- 'styluslaw14.OpcodeReads': WHATEVER THE INPUT: true; the input reads as it did. -/
def opcodeReadsSpec : ChangeSpec := { name := "opcodeReads", fn := fun _ => fun
  | [d] => { results := [.lit (.bool true)], args := [d] }
  | _ => none }
def opcodeReadsRow : OpenClaim := { program := "ytgabhndhnjedpaa", sum := "6f9f5ab5037e62ce915fea9a0cbfc3cbe9d4518f1b269c26886f951b515892bc", func := "stylus/styluslaw14.OpcodeReads", spec := "opcodeReads", unfollowed := true, recurses := true, apart := false }
def OpcodeReadsSaid : Prop := opcodeReadsRow.holds Try.pinned (OpenSpec.ofChange opcodeReadsSpec)

/-- ITS FALSE NEIGHBOUR: 'it returns false'. Refute it at one input. -/
def opcodeReadsWrong : ChangeSpec := { name := "opcodeReads", fn := fun _ => fun
  | [d] => { results := [.lit (.bool false)], args := [d] }
  | _ => none }
def OpcodeReadsWrongFalsely : Prop := opcodeReadsRow.holds Try.pinned (OpenSpec.ofChange opcodeReadsWrong)

/-- 'styluslaw14.OpcodeBack': WHATEVER THE INPUT: true; the input reads as it did. -/
def opcodeBackSpec : ChangeSpec := { name := "opcodeBack", fn := fun _ => fun
  | [d1, d2] => { results := [.lit (.bool true)], args := [d1, d2] }
  | _ => none }
def opcodeBackRow : OpenClaim := { program := "ytgabhndhnjedpaa", sum := "6f9f5ab5037e62ce915fea9a0cbfc3cbe9d4518f1b269c26886f951b515892bc", func := "stylus/styluslaw14.OpcodeBack", spec := "opcodeBack", unfollowed := true, recurses := true, apart := false }
def OpcodeBackSaid : Prop := opcodeBackRow.holds Try.pinned (OpenSpec.ofChange opcodeBackSpec)

/-- ITS FALSE NEIGHBOUR: 'it returns false'. Refute it at one input. -/
def opcodeBackWrong : ChangeSpec := { name := "opcodeBack", fn := fun _ => fun
  | [d1, d2] => { results := [.lit (.bool false)], args := [d1, d2] }
  | _ => none }
def OpcodeBackWrongFalsely : Prop := opcodeBackRow.holds Try.pinned (OpenSpec.ofChange opcodeBackWrong)

/-- 'styluslaw14.OpcodeRights': WHATEVER THE INPUT: true; the input reads as it did. -/
def opcodeRightsSpec : ChangeSpec := { name := "opcodeRights", fn := fun _ => fun
  | [d1, d2] => { results := [.lit (.bool true)], args := [d1, d2] }
  | _ => none }
def opcodeRightsRow : OpenClaim := { program := "ytgabhndhnjedpaa", sum := "6f9f5ab5037e62ce915fea9a0cbfc3cbe9d4518f1b269c26886f951b515892bc", func := "stylus/styluslaw14.OpcodeRights", spec := "opcodeRights", unfollowed := true, recurses := true, apart := false }
def OpcodeRightsSaid : Prop := opcodeRightsRow.holds Try.pinned (OpenSpec.ofChange opcodeRightsSpec)

/-- ITS FALSE NEIGHBOUR: 'it returns false'. Refute it at one input. -/
def opcodeRightsWrong : ChangeSpec := { name := "opcodeRights", fn := fun _ => fun
  | [d1, d2] => { results := [.lit (.bool false)], args := [d1, d2] }
  | _ => none }
def OpcodeRightsWrongFalsely : Prop := opcodeRightsRow.holds Try.pinned (OpenSpec.ofChange opcodeRightsWrong)

/- THE SECOND FORM. 'bulk': how many values and letters a reading holds, each counted each time it is reached (what is shared counts as often as it is met; a slice's spare places count too). A statement '..UptoSaid' is the law's where the arguments, and the package variables that the reading takes, are together of bulk at most 1048576: NARROWER than '..Said'. Prove '..Said' where nothing that the law and all that it calls make is longer than what came in: it says more and counts as full. Else prove '..UptoSaid'. A law counts once. -/
mutual
def uptoBulk {H : Type} : DataW H → Nat
  | .lit (.string bytes) => bytes.length + 1
  | .lit _ => 1
  | .nil => 1
  | .ptr d => uptoBulk d + 1
  | .slice elems spare => uptoBulkAll elems + uptoBulkAll spare + 1
  | .agg parts => uptoBulkAll parts + 1
  | .iface _ d => uptoBulk d + 1
  | .map entries => uptoBulkEntries entries + 1
  | .held _ => 1
def uptoBulkAll {H : Type} : List (DataW H) → Nat
  | [] => 0
  | d :: r => uptoBulk d + uptoBulkAll r
def uptoBulkEntries {H : Type} : List (Lit × DataW H) → Nat
  | [] => 0
  | x :: r => uptoBulkEntry x + uptoBulkEntries r
def uptoBulkEntry {H : Type} : Lit × DataW H → Nat
  | (.string bytes, d) => bytes.length + uptoBulk d + 1
  | (_, d) => uptoBulk d + 1
 end
def uptoSmall : (H : Type) → List (DataW H) → Bool := fun _ ds => decide (uptoBulkAll ds ≤ 1048576)
def OpenSpec.upto (s : _root_.Go.ChangeSpec) : _root_.Go.OpenSpec := { _root_.Go.OpenSpec.ofChange s with cond := some uptoSmall }

/-- 'styluslaw14.OpcodeBytes', WHERE WHAT IT READS IS OF BULK AT MOST 1048576: true; the input reads as it did. -/
def opcodeBytesUptoRow : OpenClaim := { program := "ytgabhndhnjedpaa", sum := "6f9f5ab5037e62ce915fea9a0cbfc3cbe9d4518f1b269c26886f951b515892bc", func := "stylus/styluslaw14.OpcodeBytes", spec := "opcodeBytes", unfollowed := true, recurses := true, apart := false, narrowed := true }
def OpcodeBytesUptoSaid : Prop := opcodeBytesUptoRow.holds Try.pinned (OpenSpec.upto opcodeBytesSpec)

/-- 'styluslaw14.OpcodeReads', WHERE WHAT IT READS IS OF BULK AT MOST 1048576: true; the input reads as it did. -/
def opcodeReadsUptoRow : OpenClaim := { program := "ytgabhndhnjedpaa", sum := "6f9f5ab5037e62ce915fea9a0cbfc3cbe9d4518f1b269c26886f951b515892bc", func := "stylus/styluslaw14.OpcodeReads", spec := "opcodeReads", unfollowed := true, recurses := true, apart := false, narrowed := true }
def OpcodeReadsUptoSaid : Prop := opcodeReadsUptoRow.holds Try.pinned (OpenSpec.upto opcodeReadsSpec)

/-- 'styluslaw14.OpcodeBack', WHERE WHAT IT READS IS OF BULK AT MOST 1048576: true; the input reads as it did. -/
def opcodeBackUptoRow : OpenClaim := { program := "ytgabhndhnjedpaa", sum := "6f9f5ab5037e62ce915fea9a0cbfc3cbe9d4518f1b269c26886f951b515892bc", func := "stylus/styluslaw14.OpcodeBack", spec := "opcodeBack", unfollowed := true, recurses := true, apart := false, narrowed := true }
def OpcodeBackUptoSaid : Prop := opcodeBackUptoRow.holds Try.pinned (OpenSpec.upto opcodeBackSpec)

/-- 'styluslaw14.OpcodeRights', WHERE WHAT IT READS IS OF BULK AT MOST 1048576: true; the input reads as it did. -/
def opcodeRightsUptoRow : OpenClaim := { program := "ytgabhndhnjedpaa", sum := "6f9f5ab5037e62ce915fea9a0cbfc3cbe9d4518f1b269c26886f951b515892bc", func := "stylus/styluslaw14.OpcodeRights", spec := "opcodeRights", unfollowed := true, recurses := true, apart := false, narrowed := true }
def OpcodeRightsUptoSaid : Prop := opcodeRightsUptoRow.holds Try.pinned (OpenSpec.upto opcodeRightsSpec)

end Rows
end Go.Proofs.Ytgabhndhnjedpaa
