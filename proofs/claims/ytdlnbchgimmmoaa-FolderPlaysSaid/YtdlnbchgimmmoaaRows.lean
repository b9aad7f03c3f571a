/-
  No cell of these rows narrows 'for every input' (looked for: loops, veiled, ifaces, maps, wideKeys, modest, calm, conditions, laid).
  DERIVED. THE GIVEN ROWS OF THIS SEAT. 3 by the template 'for every input the law returns true; each argument reads behind the call as it read before'; 0 by the template 'total and deterministic' (their statements: YtdlnbchgimmmoaaTotals.lean).
  GIVEN WITH THE SEED: the statements are not yours to turn. If you find one false, say at which input.
  Laid BY PROGRAM, IN A SANDBOX (cutbox-rows.mjs): the forced cells as the released guide's own fill.sh prints them over the translation a55661258481fc39… (all of the seat's roots in one cut). By AI agents, Wed Nov 11 2026. No macro, syntax, notation, axiom, sorry.
-/
import Derived.Test.YtdlnbchgimmmoaaChecked
import GoSem.Claim
import GoSem.ClaimJoined
import GoSem.ClaimMapViews
import Derived.JoinedTies
import Derived.KernelRfl
namespace Go.Proofs.Ytdlnbchgimmmoaa
/- THE CELL 'sum', in the pinned program and in every row, IS THE sha256 OF THE DUMP (.gsa) THAT YtdlnbchgimmmoaaProg.lean LOADS. Nothing in Lean hashes anything: it is a label: what it is worth is what the hold of that sum in a sandbox is worth. -/
noncomputable def Try.pinned : Pinned := { name := "ytdlnbchgimmmoaa", sum := "a55661258481fc3926828c4fa2495ae6ecea9556eb990cd0dba7d06849903429", checked := Try.checked }
namespace Rows
def none {H : Type} : Left H := { results := [], args := [] }

/-- 'styluslaw09.FolderMoves': WHATEVER THE INPUT: true; the input reads as it did. -/
def folderMovesSpec : ChangeSpec := { name := "folderMoves", fn := fun _ => fun
  | [d1, d2, d3] => { results := [.lit (.bool true)], args := [d1, d2, d3] }
  | _ => none }
def folderMovesRow : OpenClaim := { program := "ytdlnbchgimmmoaa", sum := "a55661258481fc3926828c4fa2495ae6ecea9556eb990cd0dba7d06849903429", func := "stylus/styluslaw09.FolderMoves", spec := "folderMoves", inPlace := ["maps.clone"], unfollowed := true, recurses := true, apart := false }
def FolderMovesSaid : Prop := folderMovesRow.holds Try.pinned (OpenSpec.ofChange folderMovesSpec)

/-- ITS FALSE NEIGHBOUR: 'it returns false'. Refute it at one input. -/
def folderMovesWrong : ChangeSpec := { name := "folderMoves", fn := fun _ => fun
  | [d1, d2, d3] => { results := [.lit (.bool false)], args := [d1, d2, d3] }
  | _ => none }
def FolderMovesWrongFalsely : Prop := folderMovesRow.holds Try.pinned (OpenSpec.ofChange folderMovesWrong)

/-- 'styluslaw09.FolderPlays': WHATEVER THE INPUT: true; the input reads as it did. -/
def folderPlaysSpec : ChangeSpec := { name := "folderPlays", fn := fun _ => fun
  | [d1, d2] => { results := [.lit (.bool true)], args := [d1, d2] }
  | _ => none }
def folderPlaysRow : OpenClaim := { program := "ytdlnbchgimmmoaa", sum := "a55661258481fc3926828c4fa2495ae6ecea9556eb990cd0dba7d06849903429", func := "stylus/styluslaw09.FolderPlays", spec := "folderPlays", inPlace := ["maps.clone"], unfollowed := true, recurses := true, apart := false }
def FolderPlaysSaid : Prop := folderPlaysRow.holds Try.pinned (OpenSpec.ofChange folderPlaysSpec)

/-- ITS FALSE NEIGHBOUR: 'it returns false'. Refute it at one input. -/
def folderPlaysWrong : ChangeSpec := { name := "folderPlays", fn := fun _ => fun
  | [d1, d2] => { results := [.lit (.bool false)], args := [d1, d2] }
  | _ => none }
def FolderPlaysWrongFalsely : Prop := folderPlaysRow.holds Try.pinned (OpenSpec.ofChange folderPlaysWrong)

/-- 'styluslaw09.FolderNobody': WHATEVER THE INPUT: true; the input reads as it did. -/
def folderNobodySpec : ChangeSpec := { name := "folderNobody", fn := fun _ => fun
  | [d1, d2] => { results := [.lit (.bool true)], args := [d1, d2] }
  | _ => none }
def folderNobodyRow : OpenClaim := { program := "ytdlnbchgimmmoaa", sum := "a55661258481fc3926828c4fa2495ae6ecea9556eb990cd0dba7d06849903429", func := "stylus/styluslaw09.FolderNobody", spec := "folderNobody", inPlace := ["maps.clone"], unfollowed := true, recurses := true, apart := false }
def FolderNobodySaid : Prop := folderNobodyRow.holds Try.pinned (OpenSpec.ofChange folderNobodySpec)

/-- ITS FALSE NEIGHBOUR: 'it returns false'. Refute it at one input. -/
def folderNobodyWrong : ChangeSpec := { name := "folderNobody", fn := fun _ => fun
  | [d1, d2] => { results := [.lit (.bool false)], args := [d1, d2] }
  | _ => none }
def FolderNobodyWrongFalsely : Prop := folderNobodyRow.holds Try.pinned (OpenSpec.ofChange folderNobodyWrong)

/- THE SECOND FORM. 'bulk': how many values and letters a reading holds, each counted each time it is reached (what is shared counts as often as it is met; a slice's spare places count too). A statement '..UptoSaid' is the law's where the arguments, and the package variables that the reading takes, are together of bulk at most 1048576: NARROWER than '..Said'. Prove '..Said' where nothing that the law and all that it calls make is longer than what came in: it says more and counts as full. Else prove '..UptoSaid'. A law counts once. -/
mutual
def uptoBulk {H : Type} : DataW H → Nat
  | .lit (.string bytes) => bytes.length + 1
  | .lit _ => 1
  | .nil => 1
  | .ptr d => uptoBulk d + 1
  | .slice elems spare => uptoBulkAll elems + uptoBulkAll spare + 1
  | .agg parts => uptoBulkAll parts + 1
  | .iface _ d => uptoBulk d + 1
  | .map entries => uptoBulkEntries entries + 1
  | .held _ => 1
def uptoBulkAll {H : Type} : List (DataW H) → Nat
  | [] => 0
  | d :: r => uptoBulk d + uptoBulkAll r
def uptoBulkEntries {H : Type} : List (Lit × DataW H) → Nat
  | [] => 0
  | x :: r => uptoBulkEntry x + uptoBulkEntries r
def uptoBulkEntry {H : Type} : Lit × DataW H → Nat
  | (.string bytes, d) => bytes.length + uptoBulk d + 1
  | (_, d) => uptoBulk d + 1
 end
def uptoSmall : (H : Type) → List (DataW H) → Bool := fun _ ds => decide (uptoBulkAll ds ≤ 1048576)
def OpenSpec.upto (s : _root_.Go.ChangeSpec) : _root_.Go.OpenSpec := { _root_.Go.OpenSpec.ofChange s with cond := some uptoSmall }

/-- 'styluslaw09.FolderMoves', WHERE WHAT IT READS IS OF BULK AT MOST 1048576: true; the input reads as it did. -/
def folderMovesUptoRow : OpenClaim := { program := "ytdlnbchgimmmoaa", sum := "a55661258481fc3926828c4fa2495ae6ecea9556eb990cd0dba7d06849903429", func := "stylus/styluslaw09.FolderMoves", spec := "folderMoves", inPlace := ["maps.clone"], unfollowed := true, recurses := true, apart := false, narrowed := true }
def FolderMovesUptoSaid : Prop := folderMovesUptoRow.holds Try.pinned (OpenSpec.upto folderMovesSpec)

/-- 'styluslaw09.FolderPlays', WHERE WHAT IT READS IS OF BULK AT MOST 1048576: true; the input reads as it did. -/
def folderPlaysUptoRow : OpenClaim := { program := "ytdlnbchgimmmoaa", sum := "a55661258481fc3926828c4fa2495ae6ecea9556eb990cd0dba7d06849903429", func := "stylus/styluslaw09.FolderPlays", spec := "folderPlays", inPlace := ["maps.clone"], unfollowed := true, recurses := true, apart := false, narrowed := true }
def FolderPlaysUptoSaid : Prop := folderPlaysUptoRow.holds Try.pinned (OpenSpec.upto folderPlaysSpec)

/-- 'styluslaw09.FolderNobody', WHERE WHAT IT READS IS OF BULK AT MOST 1048576: true; the input reads as it did. -/
def folderNobodyUptoRow : OpenClaim := { program := "ytdlnbchgimmmoaa", sum := "a55661258481fc3926828c4fa2495ae6ecea9556eb990cd0dba7d06849903429", func := "stylus/styluslaw09.FolderNobody", spec := "folderNobody", inPlace := ["maps.clone"], unfollowed := true, recurses := true, apart := false, narrowed := true }
def FolderNobodyUptoSaid : Prop := folderNobodyUptoRow.holds Try.pinned (OpenSpec.upto folderNobodySpec)

end Rows
end Go.Proofs.Ytdlnbchgimmmoaa
