/-
  No cell of these rows narrows 'for every input' (looked for: loops, veiled, ifaces, maps, wideKeys, modest, calm, conditions, laid).
  DERIVED. THE GIVEN ROWS OF THIS SEAT. 11 by the template 'for every input the law returns true; each argument reads behind the call as it read before'; 0 by the template 'total and deterministic' (their statements: YtgnpffbgfmeinaaTotals.lean).
  GIVEN WITH THE SEED: the statements are not yours to turn. If you find one false, say at which input.
  Laid BY PROGRAM, IN A SANDBOX (cutbox-rows.mjs): the forced cells as the released guide's own fill.sh prints them over the translation 01f89a754f262d37… (all of the seat's roots in one cut). By AI agents, Wed Nov 11 2026. No macro, syntax, notation, axiom, sorry.
-/
import Derived.Test.YtgnpffbgfmeinaaChecked
import GoSem.Claim
import GoSem.ClaimJoined
import GoSem.ClaimMapViews
import Derived.JoinedTies
import Derived.KernelRfl
namespace Go.Proofs.Ytgnpffbgfmeinaa
/- THE CELL 'sum', in the pinned program and in every row, IS THE sha256 OF THE DUMP (.gsa) THAT YtgnpffbgfmeinaaProg.lean LOADS. Nothing in Lean hashes anything: it is a label: what it is worth is what the hold of that sum in a sandbox is worth. -/
noncomputable def Try.pinned : Pinned := { name := "ytgnpffbgfmeinaa", sum := "01f89a754f262d375d06f9168b34eebf2a244728b248d8184ac52814cb46ad62", checked := Try.checked }
namespace Rows
def none {H : Type} : Left H := { results := [], args := [] }

/-- 'hawthornlaw03.WireNums': WHATEVER THE INPUT: true; the input reads as it did. -/
def wireNumsSpec : ChangeSpec := { name := "wireNums", fn := fun _ => fun
  | [d1, d2, d3] => { results := [.lit (.bool true)], args := [d1, d2, d3] }
  | _ => none }
def wireNumsRow : OpenClaim := { program := "ytgnpffbgfmeinaa", sum := "01f89a754f262d375d06f9168b34eebf2a244728b248d8184ac52814cb46ad62", func := "hawthorn/hawthornlaw03.WireNums", spec := "wireNums", inPlace := ["internal/abi.NoEscape"], unfollowed := true, recurses := true, apart := false }
def WireNumsSaid : Prop := wireNumsRow.holds Try.pinned (OpenSpec.ofChange wireNumsSpec)

/-- ITS FALSE NEIGHBOUR: 'it returns false'. Refute it at one input. -/
def wireNumsWrong : ChangeSpec := { name := "wireNums", fn := fun _ => fun
  | [d1, d2, d3] => { results := [.lit (.bool false)], args := [d1, d2, d3] }
  | _ => none }
def WireNumsWrongFalsely : Prop := wireNumsRow.holds Try.pinned (OpenSpec.ofChange wireNumsWrong)

/-- 'hawthornlaw03.WireChecks': WHATEVER THE INPUT: true; the input reads as it did. -/
def wireChecksSpec : ChangeSpec := { name := "wireChecks", fn := fun _ => fun
  | [d] => { results := [.lit (.bool true)], args := [d] }
  | _ => none }
def wireChecksRow : OpenClaim := { program := "ytgnpffbgfmeinaa", sum := "01f89a754f262d375d06f9168b34eebf2a244728b248d8184ac52814cb46ad62", func := "hawthorn/hawthornlaw03.WireChecks", spec := "wireChecks", inPlace := ["internal/abi.NoEscape"], unfollowed := true, recurses := true, apart := false }
def WireChecksSaid : Prop := wireChecksRow.holds Try.pinned (OpenSpec.ofChange wireChecksSpec)

/-- ITS FALSE NEIGHBOUR: 'it returns false'. Refute it at one input. -/
def wireChecksWrong : ChangeSpec := { name := "wireChecks", fn := fun _ => fun
  | [d] => { results := [.lit (.bool false)], args := [d] }
  | _ => none }
def WireChecksWrongFalsely : Prop := wireChecksRow.holds Try.pinned (OpenSpec.ofChange wireChecksWrong)

/-- 'hawthornlaw03.WireFrames': WHATEVER THE INPUT: true; the input reads as it did. -/
def wireFramesSpec : ChangeSpec := { name := "wireFrames", fn := fun _ => fun
  | [d1, d2] => { results := [.lit (.bool true)], args := [d1, d2] }
  | _ => none }
def wireFramesRow : OpenClaim := { program := "ytgnpffbgfmeinaa", sum := "01f89a754f262d375d06f9168b34eebf2a244728b248d8184ac52814cb46ad62", func := "hawthorn/hawthornlaw03.WireFrames", spec := "wireFrames", inPlace := ["internal/abi.NoEscape"], unfollowed := true, recurses := true, apart := false }
def WireFramesSaid : Prop := wireFramesRow.holds Try.pinned (OpenSpec.ofChange wireFramesSpec)

/-- ITS FALSE NEIGHBOUR: 'it returns false'. Refute it at one input. -/
def wireFramesWrong : ChangeSpec := { name := "wireFrames", fn := fun _ => fun
  | [d1, d2] => { results := [.lit (.bool false)], args := [d1, d2] }
  | _ => none }
def WireFramesWrongFalsely : Prop := wireFramesRow.holds Try.pinned (OpenSpec.ofChange wireFramesWrong)

/-- 'hawthornlaw03.WireOpens': WHATEVER THE INPUT: true; the input reads as it did. -/
def wireOpensSpec : ChangeSpec := { name := "wireOpens", fn := fun _ => fun
  | [d] => { results := [.lit (.bool true)], args := [d] }
  | _ => none }
def wireOpensRow : OpenClaim := { program := "ytgnpffbgfmeinaa", sum := "01f89a754f262d375d06f9168b34eebf2a244728b248d8184ac52814cb46ad62", func := "hawthorn/hawthornlaw03.WireOpens", spec := "wireOpens", inPlace := ["internal/abi.NoEscape"], unfollowed := true, recurses := true, apart := false }
def WireOpensSaid : Prop := wireOpensRow.holds Try.pinned (OpenSpec.ofChange wireOpensSpec)

/-- ITS FALSE NEIGHBOUR: 'it returns false'. Refute it at one input. -/
def wireOpensWrong : ChangeSpec := { name := "wireOpens", fn := fun _ => fun
  | [d] => { results := [.lit (.bool false)], args := [d] }
  | _ => none }
def WireOpensWrongFalsely : Prop := wireOpensRow.holds Try.pinned (OpenSpec.ofChange wireOpensWrong)

/-- 'hawthornlaw03.WireSpoilt': WHATEVER THE INPUT: true; the input reads as it did. -/
def wireSpoiltSpec : ChangeSpec := { name := "wireSpoilt", fn := fun _ => fun
  | [d1, d2, d3] => { results := [.lit (.bool true)], args := [d1, d2, d3] }
  | _ => none }
def wireSpoiltRow : OpenClaim := { program := "ytgnpffbgfmeinaa", sum := "01f89a754f262d375d06f9168b34eebf2a244728b248d8184ac52814cb46ad62", func := "hawthorn/hawthornlaw03.WireSpoilt", spec := "wireSpoilt", inPlace := ["internal/abi.NoEscape"], unfollowed := true, recurses := true, apart := false }
def WireSpoiltSaid : Prop := wireSpoiltRow.holds Try.pinned (OpenSpec.ofChange wireSpoiltSpec)

/-- ITS FALSE NEIGHBOUR: 'it returns false'. Refute it at one input. -/
def wireSpoiltWrong : ChangeSpec := { name := "wireSpoilt", fn := fun _ => fun
  | [d1, d2, d3] => { results := [.lit (.bool false)], args := [d1, d2, d3] }
  | _ => none }
def WireSpoiltWrongFalsely : Prop := wireSpoiltRow.holds Try.pinned (OpenSpec.ofChange wireSpoiltWrong)

/-- 'hawthornlaw03.WirePairs': WHATEVER THE INPUT: true; the input reads as it did. -/
def wirePairsSpec : ChangeSpec := { name := "wirePairs", fn := fun _ => fun
  | [d1, d2, d3] => { results := [.lit (.bool true)], args := [d1, d2, d3] }
  | _ => none }
def wirePairsRow : OpenClaim := { program := "ytgnpffbgfmeinaa", sum := "01f89a754f262d375d06f9168b34eebf2a244728b248d8184ac52814cb46ad62", func := "hawthorn/hawthornlaw03.WirePairs", spec := "wirePairs", inPlace := ["internal/abi.NoEscape"], unfollowed := true, recurses := true, apart := false }
def WirePairsSaid : Prop := wirePairsRow.holds Try.pinned (OpenSpec.ofChange wirePairsSpec)

/-- ITS FALSE NEIGHBOUR: 'it returns false'. Refute it at one input. -/
def wirePairsWrong : ChangeSpec := { name := "wirePairs", fn := fun _ => fun
  | [d1, d2, d3] => { results := [.lit (.bool false)], args := [d1, d2, d3] }
  | _ => none }
def WirePairsWrongFalsely : Prop := wirePairsRow.holds Try.pinned (OpenSpec.ofChange wirePairsWrong)

/-- 'hawthornlaw03.WireReads': WHATEVER THE INPUT: true; the input reads as it did. -/
def wireReadsSpec : ChangeSpec := { name := "wireReads", fn := fun _ => fun
  | [d1, d2] => { results := [.lit (.bool true)], args := [d1, d2] }
  | _ => none }
def wireReadsRow : OpenClaim := { program := "ytgnpffbgfmeinaa", sum := "01f89a754f262d375d06f9168b34eebf2a244728b248d8184ac52814cb46ad62", func := "hawthorn/hawthornlaw03.WireReads", spec := "wireReads", inPlace := ["internal/abi.NoEscape"], unfollowed := true, recurses := true, apart := false }
def WireReadsSaid : Prop := wireReadsRow.holds Try.pinned (OpenSpec.ofChange wireReadsSpec)

/-- ITS FALSE NEIGHBOUR: 'it returns false'. Refute it at one input. -/
def wireReadsWrong : ChangeSpec := { name := "wireReads", fn := fun _ => fun
  | [d1, d2] => { results := [.lit (.bool false)], args := [d1, d2] }
  | _ => none }
def WireReadsWrongFalsely : Prop := wireReadsRow.holds Try.pinned (OpenSpec.ofChange wireReadsWrong)

/-- 'hawthornlaw03.WireTexts': WHATEVER THE INPUT: true; the input reads as it did. -/
def wireTextsSpec : ChangeSpec := { name := "wireTexts", fn := fun _ => fun
  | [d1, d2, d3] => { results := [.lit (.bool true)], args := [d1, d2, d3] }
  | _ => none }
def wireTextsRow : OpenClaim := { program := "ytgnpffbgfmeinaa", sum := "01f89a754f262d375d06f9168b34eebf2a244728b248d8184ac52814cb46ad62", func := "hawthorn/hawthornlaw03.WireTexts", spec := "wireTexts", inPlace := ["internal/abi.NoEscape"], unfollowed := true, recurses := true, apart := false }
def WireTextsSaid : Prop := wireTextsRow.holds Try.pinned (OpenSpec.ofChange wireTextsSpec)

/-- ITS FALSE NEIGHBOUR: 'it returns false'. Refute it at one input. -/
def wireTextsWrong : ChangeSpec := { name := "wireTexts", fn := fun _ => fun
  | [d1, d2, d3] => { results := [.lit (.bool false)], args := [d1, d2, d3] }
  | _ => none }
def WireTextsWrongFalsely : Prop := wireTextsRow.holds Try.pinned (OpenSpec.ofChange wireTextsWrong)

/-- 'hawthornlaw16.CellViews': WHATEVER THE INPUT: true; the input reads as it did. -/
def cellViewsSpec : ChangeSpec := { name := "cellViews", fn := fun _ => fun
  | [d] => { results := [.lit (.bool true)], args := [d] }
  | _ => none }
def cellViewsRow : OpenClaim := { program := "ytgnpffbgfmeinaa", sum := "01f89a754f262d375d06f9168b34eebf2a244728b248d8184ac52814cb46ad62", func := "hawthorn/hawthornlaw16.CellViews", spec := "cellViews", inPlace := ["internal/abi.NoEscape"], unfollowed := true, recurses := true, apart := false }
def CellViewsSaid : Prop := cellViewsRow.holds Try.pinned (OpenSpec.ofChange cellViewsSpec)

/-- ITS FALSE NEIGHBOUR: 'it returns false'. Refute it at one input. -/
def cellViewsWrong : ChangeSpec := { name := "cellViews", fn := fun _ => fun
  | [d] => { results := [.lit (.bool false)], args := [d] }
  | _ => none }
def CellViewsWrongFalsely : Prop := cellViewsRow.holds Try.pinned (OpenSpec.ofChange cellViewsWrong)

/-- 'hawthornlaw10.OpChecks': WHATEVER THE INPUT: true; the input reads as it did. -/
def opChecksSpec : ChangeSpec := { name := "opChecks", fn := fun _ => fun
  | [d] => { results := [.lit (.bool true)], args := [d] }
  | _ => none }
def opChecksRow : OpenClaim := { program := "ytgnpffbgfmeinaa", sum := "01f89a754f262d375d06f9168b34eebf2a244728b248d8184ac52814cb46ad62", func := "hawthorn/hawthornlaw10.OpChecks", spec := "opChecks", inPlace := ["internal/abi.NoEscape"], unfollowed := true, recurses := true, apart := false }
def OpChecksSaid : Prop := opChecksRow.holds Try.pinned (OpenSpec.ofChange opChecksSpec)

/-- ITS FALSE NEIGHBOUR: 'it returns false'. Refute it at one input. -/
def opChecksWrong : ChangeSpec := { name := "opChecks", fn := fun _ => fun
  | [d] => { results := [.lit (.bool false)], args := [d] }
  | _ => none }
def OpChecksWrongFalsely : Prop := opChecksRow.holds Try.pinned (OpenSpec.ofChange opChecksWrong)

/-- 'hawthornlaw10.OpRecords': WHATEVER THE INPUT: true; the input reads as it did. -/
def opRecordsSpec : ChangeSpec := { name := "opRecords", fn := fun _ => fun
  | [d1, d2] => { results := [.lit (.bool true)], args := [d1, d2] }
  | _ => none }
def opRecordsRow : OpenClaim := { program := "ytgnpffbgfmeinaa", sum := "01f89a754f262d375d06f9168b34eebf2a244728b248d8184ac52814cb46ad62", func := "hawthorn/hawthornlaw10.OpRecords", spec := "opRecords", inPlace := ["internal/abi.NoEscape"], unfollowed := true, recurses := true, apart := false }
def OpRecordsSaid : Prop := opRecordsRow.holds Try.pinned (OpenSpec.ofChange opRecordsSpec)

/-- ITS FALSE NEIGHBOUR: 'it returns false'. Refute it at one input. -/
def opRecordsWrong : ChangeSpec := { name := "opRecords", fn := fun _ => fun
  | [d1, d2] => { results := [.lit (.bool false)], args := [d1, d2] }
  | _ => none }
def OpRecordsWrongFalsely : Prop := opRecordsRow.holds Try.pinned (OpenSpec.ofChange opRecordsWrong)

/- THE SECOND FORM. 'bulk': how many values and letters a reading holds, each counted each time it is reached (what is shared counts as often as it is met; a slice's spare places count too). A statement '..UptoSaid' is the law's where the arguments, and the package variables that the reading takes, are together of bulk at most 1048576: NARROWER than '..Said'. Prove '..Said' where nothing that the law and all that it calls make is longer than what came in: it says more and counts as full. Else prove '..UptoSaid'. A law counts once. -/
mutual
def uptoBulk {H : Type} : DataW H → Nat
  | .lit (.string bytes) => bytes.length + 1
  | .lit _ => 1
  | .nil => 1
  | .ptr d => uptoBulk d + 1
  | .slice elems spare => uptoBulkAll elems + uptoBulkAll spare + 1
  | .agg parts => uptoBulkAll parts + 1
  | .iface _ d => uptoBulk d + 1
  | .map entries => uptoBulkEntries entries + 1
  | .held _ => 1
def uptoBulkAll {H : Type} : List (DataW H) → Nat
  | [] => 0
  | d :: r => uptoBulk d + uptoBulkAll r
def uptoBulkEntries {H : Type} : List (Lit × DataW H) → Nat
  | [] => 0
  | x :: r => uptoBulkEntry x + uptoBulkEntries r
def uptoBulkEntry {H : Type} : Lit × DataW H → Nat
  | (.string bytes, d) => bytes.length + uptoBulk d + 1
  | (_, d) => uptoBulk d + 1
 end
def uptoSmall : (H : Type) → List (DataW H) → Bool := fun _ ds => decide (uptoBulkAll ds ≤ 1048576)
def OpenSpec.upto (s : _root_.Go.ChangeSpec) : _root_.Go.OpenSpec := { _root_.Go.OpenSpec.ofChange s with cond := some uptoSmall }

/-- 'hawthornlaw03.WireNums', WHERE WHAT IT READS IS OF BULK AT MOST 1048576: true; the input reads as it did. -/
def wireNumsUptoRow : OpenClaim := { program := "ytgnpffbgfmeinaa", sum := "01f89a754f262d375d06f9168b34eebf2a244728b248d8184ac52814cb46ad62", func := "hawthorn/hawthornlaw03.WireNums", spec := "wireNums", inPlace := ["internal/abi.NoEscape"], unfollowed := true, recurses := true, apart := false, narrowed := true }
def WireNumsUptoSaid : Prop := wireNumsUptoRow.holds Try.pinned (OpenSpec.upto wireNumsSpec)

/-- 'hawthornlaw03.WireChecks', WHERE WHAT IT READS IS OF BULK AT MOST 1048576: true; the input reads as it did. -/
def wireChecksUptoRow : OpenClaim := { program := "ytgnpffbgfmeinaa", sum := "01f89a754f262d375d06f9168b34eebf2a244728b248d8184ac52814cb46ad62", func := "hawthorn/hawthornlaw03.WireChecks", spec := "wireChecks", inPlace := ["internal/abi.NoEscape"], unfollowed := true, recurses := true, apart := false, narrowed := true }
def WireChecksUptoSaid : Prop := wireChecksUptoRow.holds Try.pinned (OpenSpec.upto wireChecksSpec)

/-- 'hawthornlaw03.WireFrames', WHERE WHAT IT READS IS OF BULK AT MOST 1048576: true; the input reads as it did. -/
def wireFramesUptoRow : OpenClaim := { program := "ytgnpffbgfmeinaa", sum := "01f89a754f262d375d06f9168b34eebf2a244728b248d8184ac52814cb46ad62", func := "hawthorn/hawthornlaw03.WireFrames", spec := "wireFrames", inPlace := ["internal/abi.NoEscape"], unfollowed := true, recurses := true, apart := false, narrowed := true }
def WireFramesUptoSaid : Prop := wireFramesUptoRow.holds Try.pinned (OpenSpec.upto wireFramesSpec)

/-- 'hawthornlaw03.WireOpens', WHERE WHAT IT READS IS OF BULK AT MOST 1048576: true; the input reads as it did. -/
def wireOpensUptoRow : OpenClaim := { program := "ytgnpffbgfmeinaa", sum := "01f89a754f262d375d06f9168b34eebf2a244728b248d8184ac52814cb46ad62", func := "hawthorn/hawthornlaw03.WireOpens", spec := "wireOpens", inPlace := ["internal/abi.NoEscape"], unfollowed := true, recurses := true, apart := false, narrowed := true }
def WireOpensUptoSaid : Prop := wireOpensUptoRow.holds Try.pinned (OpenSpec.upto wireOpensSpec)

/-- 'hawthornlaw03.WireSpoilt', WHERE WHAT IT READS IS OF BULK AT MOST 1048576: true; the input reads as it did. -/
def wireSpoiltUptoRow : OpenClaim := { program := "ytgnpffbgfmeinaa", sum := "01f89a754f262d375d06f9168b34eebf2a244728b248d8184ac52814cb46ad62", func := "hawthorn/hawthornlaw03.WireSpoilt", spec := "wireSpoilt", inPlace := ["internal/abi.NoEscape"], unfollowed := true, recurses := true, apart := false, narrowed := true }
def WireSpoiltUptoSaid : Prop := wireSpoiltUptoRow.holds Try.pinned (OpenSpec.upto wireSpoiltSpec)

/-- 'hawthornlaw03.WirePairs', WHERE WHAT IT READS IS OF BULK AT MOST 1048576: true; the input reads as it did. -/
def wirePairsUptoRow : OpenClaim := { program := "ytgnpffbgfmeinaa", sum := "01f89a754f262d375d06f9168b34eebf2a244728b248d8184ac52814cb46ad62", func := "hawthorn/hawthornlaw03.WirePairs", spec := "wirePairs", inPlace := ["internal/abi.NoEscape"], unfollowed := true, recurses := true, apart := false, narrowed := true }
def WirePairsUptoSaid : Prop := wirePairsUptoRow.holds Try.pinned (OpenSpec.upto wirePairsSpec)

/-- 'hawthornlaw03.WireReads', WHERE WHAT IT READS IS OF BULK AT MOST 1048576: true; the input reads as it did. -/
def wireReadsUptoRow : OpenClaim := { program := "ytgnpffbgfmeinaa", sum := "01f89a754f262d375d06f9168b34eebf2a244728b248d8184ac52814cb46ad62", func := "hawthorn/hawthornlaw03.WireReads", spec := "wireReads", inPlace := ["internal/abi.NoEscape"], unfollowed := true, recurses := true, apart := false, narrowed := true }
def WireReadsUptoSaid : Prop := wireReadsUptoRow.holds Try.pinned (OpenSpec.upto wireReadsSpec)

/-- 'hawthornlaw03.WireTexts', WHERE WHAT IT READS IS OF BULK AT MOST 1048576: true; the input reads as it did. -/
def wireTextsUptoRow : OpenClaim := { program := "ytgnpffbgfmeinaa", sum := "01f89a754f262d375d06f9168b34eebf2a244728b248d8184ac52814cb46ad62", func := "hawthorn/hawthornlaw03.WireTexts", spec := "wireTexts", inPlace := ["internal/abi.NoEscape"], unfollowed := true, recurses := true, apart := false, narrowed := true }
def WireTextsUptoSaid : Prop := wireTextsUptoRow.holds Try.pinned (OpenSpec.upto wireTextsSpec)

/-- 'hawthornlaw16.CellViews', WHERE WHAT IT READS IS OF BULK AT MOST 1048576: true; the input reads as it did. -/
def cellViewsUptoRow : OpenClaim := { program := "ytgnpffbgfmeinaa", sum := "01f89a754f262d375d06f9168b34eebf2a244728b248d8184ac52814cb46ad62", func := "hawthorn/hawthornlaw16.CellViews", spec := "cellViews", inPlace := ["internal/abi.NoEscape"], unfollowed := true, recurses := true, apart := false, narrowed := true }
def CellViewsUptoSaid : Prop := cellViewsUptoRow.holds Try.pinned (OpenSpec.upto cellViewsSpec)

/-- 'hawthornlaw10.OpChecks', WHERE WHAT IT READS IS OF BULK AT MOST 1048576: true; the input reads as it did. -/
def opChecksUptoRow : OpenClaim := { program := "ytgnpffbgfmeinaa", sum := "01f89a754f262d375d06f9168b34eebf2a244728b248d8184ac52814cb46ad62", func := "hawthorn/hawthornlaw10.OpChecks", spec := "opChecks", inPlace := ["internal/abi.NoEscape"], unfollowed := true, recurses := true, apart := false, narrowed := true }
def OpChecksUptoSaid : Prop := opChecksUptoRow.holds Try.pinned (OpenSpec.upto opChecksSpec)

/-- 'hawthornlaw10.OpRecords', WHERE WHAT IT READS IS OF BULK AT MOST 1048576: true; the input reads as it did. -/
def opRecordsUptoRow : OpenClaim := { program := "ytgnpffbgfmeinaa", sum := "01f89a754f262d375d06f9168b34eebf2a244728b248d8184ac52814cb46ad62", func := "hawthorn/hawthornlaw10.OpRecords", spec := "opRecords", inPlace := ["internal/abi.NoEscape"], unfollowed := true, recurses := true, apart := false, narrowed := true }
def OpRecordsUptoSaid : Prop := opRecordsUptoRow.holds Try.pinned (OpenSpec.upto opRecordsSpec)

end Rows
end Go.Proofs.Ytgnpffbgfmeinaa
