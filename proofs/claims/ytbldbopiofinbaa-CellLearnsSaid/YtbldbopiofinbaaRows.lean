/-
  No cell of these rows narrows 'for every input' (looked for: loops, veiled, ifaces, maps, wideKeys, modest, calm, conditions, laid).
  DERIVED. THE GIVEN ROWS OF THIS SEAT. 3 by the template 'for every input the law returns true; each argument reads behind the call as it read before'; 0 by the template 'total and deterministic' (their statements: YtbldbopiofinbaaTotals.lean).
  GIVEN WITH THE SEED: the statements are not yours to turn. If you find one false, say at which input.
  Laid BY PROGRAM, IN A SANDBOX (cutbox-rows.mjs): the forced cells as the released guide's own fill.sh prints them over the translation eea78389bd715862… (all of the seat's roots in one cut). By AI agents, Wed Nov 11 2026. No macro, syntax, notation, axiom, sorry.
-/
import Derived.Test.YtbldbopiofinbaaChecked
import GoSem.Claim
import GoSem.ClaimJoined
import GoSem.ClaimMapViews
import Derived.JoinedTies
import Derived.KernelRfl
namespace Go.Proofs.Ytbldbopiofinbaa
/- THE CELL 'sum', in the pinned program and in every row, IS THE sha256 OF THE DUMP (.gsa) THAT YtbldbopiofinbaaProg.lean LOADS. Nothing in Lean hashes anything: it is a label: what it is worth is what the hold of that sum in a sandbox is worth. -/
noncomputable def Try.pinned : Pinned := { name := "ytbldbopiofinbaa", sum := "eea78389bd715862d305e2a55be6b73a6d13982af47bb571b3b444bacefbf7c4", checked := Try.checked }
namespace Rows
def none {H : Type} : Left H := { results := [], args := [] }

/-- 'hawthornlaw16.CellBallots': WHATEVER THE INPUT: true; the input reads as it did. -/
def cellBallotsSpec : ChangeSpec := { name := "cellBallots", fn := fun _ => fun
  | [d1, d2] => { results := [.lit (.bool true)], args := [d1, d2] }
  | _ => none }
def cellBallotsRow : OpenClaim := { program := "ytbldbopiofinbaa", sum := "eea78389bd715862d305e2a55be6b73a6d13982af47bb571b3b444bacefbf7c4", func := "hawthorn/hawthornlaw16.CellBallots", spec := "cellBallots", apart := false }
def CellBallotsSaid : Prop := cellBallotsRow.holds Try.pinned (OpenSpec.ofChange cellBallotsSpec)

/-- ITS FALSE NEIGHBOUR: 'it returns false'. Refute it at one input. -/
def cellBallotsWrong : ChangeSpec := { name := "cellBallots", fn := fun _ => fun
  | [d1, d2] => { results := [.lit (.bool false)], args := [d1, d2] }
  | _ => none }
def CellBallotsWrongFalsely : Prop := cellBallotsRow.holds Try.pinned (OpenSpec.ofChange cellBallotsWrong)

/-- 'hawthornlaw16.CellLearns': WHATEVER THE INPUT: true; the input reads as it did. -/
def cellLearnsSpec : ChangeSpec := { name := "cellLearns", fn := fun _ => fun
  | [d] => { results := [.lit (.bool true)], args := [d] }
  | _ => none }
def cellLearnsRow : OpenClaim := { program := "ytbldbopiofinbaa", sum := "eea78389bd715862d305e2a55be6b73a6d13982af47bb571b3b444bacefbf7c4", func := "hawthorn/hawthornlaw16.CellLearns", spec := "cellLearns", apart := false }
def CellLearnsSaid : Prop := cellLearnsRow.holds Try.pinned (OpenSpec.ofChange cellLearnsSpec)

/-- ITS FALSE NEIGHBOUR: 'it returns false'. Refute it at one input. -/
def cellLearnsWrong : ChangeSpec := { name := "cellLearns", fn := fun _ => fun
  | [d] => { results := [.lit (.bool false)], args := [d] }
  | _ => none }
def CellLearnsWrongFalsely : Prop := cellLearnsRow.holds Try.pinned (OpenSpec.ofChange cellLearnsWrong)

/-- 'hawthornlaw16.CellNone': WHATEVER THE INPUT: true; the input reads as it did. -/
def cellNoneSpec : ChangeSpec := { name := "cellNone", fn := fun _ => fun
  | [d1, d2] => { results := [.lit (.bool true)], args := [d1, d2] }
  | _ => none }
def cellNoneRow : OpenClaim := { program := "ytbldbopiofinbaa", sum := "eea78389bd715862d305e2a55be6b73a6d13982af47bb571b3b444bacefbf7c4", func := "hawthorn/hawthornlaw16.CellNone", spec := "cellNone", inPlace := ["internal/abi.NoEscape"], apart := false }
def CellNoneSaid : Prop := cellNoneRow.holds Try.pinned (OpenSpec.ofChange cellNoneSpec)

/-- ITS FALSE NEIGHBOUR: 'it returns false'. Refute it at one input. -/
def cellNoneWrong : ChangeSpec := { name := "cellNone", fn := fun _ => fun
  | [d1, d2] => { results := [.lit (.bool false)], args := [d1, d2] }
  | _ => none }
def CellNoneWrongFalsely : Prop := cellNoneRow.holds Try.pinned (OpenSpec.ofChange cellNoneWrong)

/- THE SECOND FORM. 'bulk': how many values and letters a reading holds, each counted each time it is reached (what is shared counts as often as it is met; a slice's spare places count too). A statement '..UptoSaid' is the law's where the arguments, and the package variables that the reading takes, are together of bulk at most 1048576: NARROWER than '..Said'. Prove '..Said' where nothing that the law and all that it calls make is longer than what came in: it says more and counts as full. Else prove '..UptoSaid'. A law counts once. -/
mutual
def uptoBulk {H : Type} : DataW H → Nat
  | .lit (.string bytes) => bytes.length + 1
  | .lit _ => 1
  | .nil => 1
  | .ptr d => uptoBulk d + 1
  | .slice elems spare => uptoBulkAll elems + uptoBulkAll spare + 1
  | .agg parts => uptoBulkAll parts + 1
  | .iface _ d => uptoBulk d + 1
  | .map entries => uptoBulkEntries entries + 1
  | .held _ => 1
def uptoBulkAll {H : Type} : List (DataW H) → Nat
  | [] => 0
  | d :: r => uptoBulk d + uptoBulkAll r
def uptoBulkEntries {H : Type} : List (Lit × DataW H) → Nat
  | [] => 0
  | x :: r => uptoBulkEntry x + uptoBulkEntries r
def uptoBulkEntry {H : Type} : Lit × DataW H → Nat
  | (.string bytes, d) => bytes.length + uptoBulk d + 1
  | (_, d) => uptoBulk d + 1
 end
def uptoSmall : (H : Type) → List (DataW H) → Bool := fun _ ds => decide (uptoBulkAll ds ≤ 1048576)
def OpenSpec.upto (s : _root_.Go.ChangeSpec) : _root_.Go.OpenSpec := { _root_.Go.OpenSpec.ofChange s with cond := some uptoSmall }

/-- 'hawthornlaw16.CellBallots', WHERE WHAT IT READS IS OF BULK AT MOST 1048576: true; the input reads as it did. -/
def cellBallotsUptoRow : OpenClaim := { program := "ytbldbopiofinbaa", sum := "eea78389bd715862d305e2a55be6b73a6d13982af47bb571b3b444bacefbf7c4", func := "hawthorn/hawthornlaw16.CellBallots", spec := "cellBallots", apart := false, narrowed := true }
def CellBallotsUptoSaid : Prop := cellBallotsUptoRow.holds Try.pinned (OpenSpec.upto cellBallotsSpec)

/-- 'hawthornlaw16.CellLearns', WHERE WHAT IT READS IS OF BULK AT MOST 1048576: true; the input reads as it did. -/
def cellLearnsUptoRow : OpenClaim := { program := "ytbldbopiofinbaa", sum := "eea78389bd715862d305e2a55be6b73a6d13982af47bb571b3b444bacefbf7c4", func := "hawthorn/hawthornlaw16.CellLearns", spec := "cellLearns", apart := false, narrowed := true }
def CellLearnsUptoSaid : Prop := cellLearnsUptoRow.holds Try.pinned (OpenSpec.upto cellLearnsSpec)

/-- 'hawthornlaw16.CellNone', WHERE WHAT IT READS IS OF BULK AT MOST 1048576: true; the input reads as it did. -/
def cellNoneUptoRow : OpenClaim := { program := "ytbldbopiofinbaa", sum := "eea78389bd715862d305e2a55be6b73a6d13982af47bb571b3b444bacefbf7c4", func := "hawthorn/hawthornlaw16.CellNone", spec := "cellNone", inPlace := ["internal/abi.NoEscape"], apart := false, narrowed := true }
def CellNoneUptoSaid : Prop := cellNoneUptoRow.holds Try.pinned (OpenSpec.upto cellNoneSpec)

end Rows
end Go.Proofs.Ytbldbopiofinbaa
