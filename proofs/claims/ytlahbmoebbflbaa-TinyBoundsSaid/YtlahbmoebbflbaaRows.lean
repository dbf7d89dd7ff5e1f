/-
  No cell of these rows narrows 'for every input' (looked for: loops, veiled, ifaces, maps, wideKeys, modest, calm, conditions, laid).
  DERIVED. THE GIVEN ROWS OF THIS SEAT. 9 by the template 'for every input the law returns true; each argument reads behind the call as it read before'; 0 by the template 'total and deterministic' (their statements: YtlahbmoebbflbaaTotals.lean).
  GIVEN WITH THE SEED: the statements are not yours to turn. If you find one false, say at which input.
  Laid BY PROGRAM, IN A SANDBOX (cutbox-rows.mjs): the forced cells as the released guide's own fill.sh prints them over the translation 082040a50234ef73… (all of the seat's roots in one cut). By AI agents, Wed Nov 11 2026. No macro, syntax, notation, axiom, sorry.
-/
import Derived.Test.YtlahbmoebbflbaaChecked
import GoSem.Claim
import GoSem.ClaimJoined
import GoSem.ClaimMapViews
import Derived.JoinedTies
import Derived.KernelRfl
namespace Go.Proofs.Ytlahbmoebbflbaa
/- THE CELL 'sum', in the pinned program and in every row, IS THE sha256 OF THE DUMP (.gsa) THAT YtlahbmoebbflbaaProg.lean LOADS. Nothing in Lean hashes anything: it is a label: what it is worth is what the hold of that sum in a sandbox is worth. -/
noncomputable def Try.pinned : Pinned := { name := "ytlahbmoebbflbaa", sum := "082040a50234ef73d98c54755888a7e15909c1a70c946b6217774ae560eab351", checked := Try.checked }
namespace Rows
def none {H : Type} : Left H := { results := [], args := [] }

/-- 'hawthornlaw05.SketchLeast': WHATEVER THE INPUT: true; the input reads as it did. -/
def sketchLeastSpec : ChangeSpec := { name := "sketchLeast", fn := fun _ => fun
  | [d1, d2, d3] => { results := [.lit (.bool true)], args := [d1, d2, d3] }
  | _ => none }
def sketchLeastRow : OpenClaim := { program := "ytlahbmoebbflbaa", sum := "082040a50234ef73d98c54755888a7e15909c1a70c946b6217774ae560eab351", func := "hawthorn/hawthornlaw05.SketchLeast", spec := "sketchLeast", apart := false }
def SketchLeastSaid : Prop := sketchLeastRow.holds Try.pinned (OpenSpec.ofChange sketchLeastSpec)

/-- ITS FALSE NEIGHBOUR: 'it returns false'. Refute it at one input. -/
def sketchLeastWrong : ChangeSpec := { name := "sketchLeast", fn := fun _ => fun
  | [d1, d2, d3] => { results := [.lit (.bool false)], args := [d1, d2, d3] }
  | _ => none }
def SketchLeastWrongFalsely : Prop := sketchLeastRow.holds Try.pinned (OpenSpec.ofChange sketchLeastWrong)

/-- 'hawthornlaw05.SketchAdds': WHATEVER THE INPUT: true; the input reads as it did. -/
def sketchAddsSpec : ChangeSpec := { name := "sketchAdds", fn := fun _ => fun
  | [d1, d2, d3] => { results := [.lit (.bool true)], args := [d1, d2, d3] }
  | _ => none }
def sketchAddsRow : OpenClaim := { program := "ytlahbmoebbflbaa", sum := "082040a50234ef73d98c54755888a7e15909c1a70c946b6217774ae560eab351", func := "hawthorn/hawthornlaw05.SketchAdds", spec := "sketchAdds", inPlace := ["internal/abi.NoEscape"], apart := false }
def SketchAddsSaid : Prop := sketchAddsRow.holds Try.pinned (OpenSpec.ofChange sketchAddsSpec)

/-- ITS FALSE NEIGHBOUR: 'it returns false'. Refute it at one input. -/
def sketchAddsWrong : ChangeSpec := { name := "sketchAdds", fn := fun _ => fun
  | [d1, d2, d3] => { results := [.lit (.bool false)], args := [d1, d2, d3] }
  | _ => none }
def SketchAddsWrongFalsely : Prop := sketchAddsRow.holds Try.pinned (OpenSpec.ofChange sketchAddsWrong)

/-- 'hawthornlaw05.SketchAges': WHATEVER THE INPUT: true; the input reads as it did. -/
def sketchAgesSpec : ChangeSpec := { name := "sketchAges", fn := fun _ => fun
  | [d1, d2, d3] => { results := [.lit (.bool true)], args := [d1, d2, d3] }
  | _ => none }
def sketchAgesRow : OpenClaim := { program := "ytlahbmoebbflbaa", sum := "082040a50234ef73d98c54755888a7e15909c1a70c946b6217774ae560eab351", func := "hawthorn/hawthornlaw05.SketchAges", spec := "sketchAges", inPlace := ["internal/abi.NoEscape"], apart := false }
def SketchAgesSaid : Prop := sketchAgesRow.holds Try.pinned (OpenSpec.ofChange sketchAgesSpec)

/-- ITS FALSE NEIGHBOUR: 'it returns false'. Refute it at one input. -/
def sketchAgesWrong : ChangeSpec := { name := "sketchAges", fn := fun _ => fun
  | [d1, d2, d3] => { results := [.lit (.bool false)], args := [d1, d2, d3] }
  | _ => none }
def SketchAgesWrongFalsely : Prop := sketchAgesRow.holds Try.pinned (OpenSpec.ofChange sketchAgesWrong)

/-- 'hawthornlaw05.SketchNone': WHATEVER THE INPUT: true; the input reads as it did. -/
def sketchNoneSpec : ChangeSpec := { name := "sketchNone", fn := fun _ => fun
  | [d1, d2] => { results := [.lit (.bool true)], args := [d1, d2] }
  | _ => none }
def sketchNoneRow : OpenClaim := { program := "ytlahbmoebbflbaa", sum := "082040a50234ef73d98c54755888a7e15909c1a70c946b6217774ae560eab351", func := "hawthorn/hawthornlaw05.SketchNone", spec := "sketchNone", inPlace := ["internal/abi.NoEscape"], apart := false }
def SketchNoneSaid : Prop := sketchNoneRow.holds Try.pinned (OpenSpec.ofChange sketchNoneSpec)

/-- ITS FALSE NEIGHBOUR: 'it returns false'. Refute it at one input. -/
def sketchNoneWrong : ChangeSpec := { name := "sketchNone", fn := fun _ => fun
  | [d1, d2] => { results := [.lit (.bool false)], args := [d1, d2] }
  | _ => none }
def SketchNoneWrongFalsely : Prop := sketchNoneRow.holds Try.pinned (OpenSpec.ofChange sketchNoneWrong)

/-- 'hawthornlaw05.SketchGoesOn': WHATEVER THE INPUT: true; the input reads as it did. -/
def sketchGoesOnSpec : ChangeSpec := { name := "sketchGoesOn", fn := fun _ => fun
  | [d1, d2, d3] => { results := [.lit (.bool true)], args := [d1, d2, d3] }
  | _ => none }
def sketchGoesOnRow : OpenClaim := { program := "ytlahbmoebbflbaa", sum := "082040a50234ef73d98c54755888a7e15909c1a70c946b6217774ae560eab351", func := "hawthorn/hawthornlaw05.SketchGoesOn", spec := "sketchGoesOn", inPlace := ["internal/abi.NoEscape"], unfollowed := true, recurses := true, apart := false }
def SketchGoesOnSaid : Prop := sketchGoesOnRow.holds Try.pinned (OpenSpec.ofChange sketchGoesOnSpec)

/-- ITS FALSE NEIGHBOUR: 'it returns false'. Refute it at one input. -/
def sketchGoesOnWrong : ChangeSpec := { name := "sketchGoesOn", fn := fun _ => fun
  | [d1, d2, d3] => { results := [.lit (.bool false)], args := [d1, d2, d3] }
  | _ => none }
def SketchGoesOnWrongFalsely : Prop := sketchGoesOnRow.holds Try.pinned (OpenSpec.ofChange sketchGoesOnWrong)

/-- 'hawthornlaw08.TinyKeeps': WHATEVER THE INPUT: true; the input reads as it did. -/
def tinyKeepsSpec : ChangeSpec := { name := "tinyKeeps", fn := fun _ => fun
  | [d1, d2] => { results := [.lit (.bool true)], args := [d1, d2] }
  | _ => none }
def tinyKeepsRow : OpenClaim := { program := "ytlahbmoebbflbaa", sum := "082040a50234ef73d98c54755888a7e15909c1a70c946b6217774ae560eab351", func := "hawthorn/hawthornlaw08.TinyKeeps", spec := "tinyKeeps", apart := false }
def TinyKeepsSaid : Prop := tinyKeepsRow.holds Try.pinned (OpenSpec.ofChange tinyKeepsSpec)

/-- ITS FALSE NEIGHBOUR: 'it returns false'. Refute it at one input. -/
def tinyKeepsWrong : ChangeSpec := { name := "tinyKeeps", fn := fun _ => fun
  | [d1, d2] => { results := [.lit (.bool false)], args := [d1, d2] }
  | _ => none }
def TinyKeepsWrongFalsely : Prop := tinyKeepsRow.holds Try.pinned (OpenSpec.ofChange tinyKeepsWrong)

/-- 'hawthornlaw08.TinyDuel': WHATEVER THE INPUT: true; the input reads as it did. -/
def tinyDuelSpec : ChangeSpec := { name := "tinyDuel", fn := fun _ => fun
  | [d1, d2] => { results := [.lit (.bool true)], args := [d1, d2] }
  | _ => none }
def tinyDuelRow : OpenClaim := { program := "ytlahbmoebbflbaa", sum := "082040a50234ef73d98c54755888a7e15909c1a70c946b6217774ae560eab351", func := "hawthorn/hawthornlaw08.TinyDuel", spec := "tinyDuel", apart := false }
def TinyDuelSaid : Prop := tinyDuelRow.holds Try.pinned (OpenSpec.ofChange tinyDuelSpec)

/-- ITS FALSE NEIGHBOUR: 'it returns false'. Refute it at one input. -/
def tinyDuelWrong : ChangeSpec := { name := "tinyDuel", fn := fun _ => fun
  | [d1, d2] => { results := [.lit (.bool false)], args := [d1, d2] }
  | _ => none }
def TinyDuelWrongFalsely : Prop := tinyDuelRow.holds Try.pinned (OpenSpec.ofChange tinyDuelWrong)

/-- 'hawthornlaw08.TinyBounds': WHATEVER THE INPUT: true; the input reads as it did. -/
def tinyBoundsSpec : ChangeSpec := { name := "tinyBounds", fn := fun _ => fun
  | [d1, d2] => { results := [.lit (.bool true)], args := [d1, d2] }
  | _ => none }
def tinyBoundsRow : OpenClaim := { program := "ytlahbmoebbflbaa", sum := "082040a50234ef73d98c54755888a7e15909c1a70c946b6217774ae560eab351", func := "hawthorn/hawthornlaw08.TinyBounds", spec := "tinyBounds", unfollowed := true, recurses := true, apart := false }
def TinyBoundsSaid : Prop := tinyBoundsRow.holds Try.pinned (OpenSpec.ofChange tinyBoundsSpec)

/-- ITS FALSE NEIGHBOUR: 'it returns false'. Refute it at one input. -/
def tinyBoundsWrong : ChangeSpec := { name := "tinyBounds", fn := fun _ => fun
  | [d1, d2] => { results := [.lit (.bool false)], args := [d1, d2] }
  | _ => none }
def TinyBoundsWrongFalsely : Prop := tinyBoundsRow.holds Try.pinned (OpenSpec.ofChange tinyBoundsWrong)

/-- 'hawthornlaw08.TinyNone': WHATEVER THE INPUT: true; the input reads as it did. -/
def tinyNoneSpec : ChangeSpec := { name := "tinyNone", fn := fun _ => fun
  | [d1, d2] => { results := [.lit (.bool true)], args := [d1, d2] }
  | _ => none }
def tinyNoneRow : OpenClaim := { program := "ytlahbmoebbflbaa", sum := "082040a50234ef73d98c54755888a7e15909c1a70c946b6217774ae560eab351", func := "hawthorn/hawthornlaw08.TinyNone", spec := "tinyNone", inPlace := ["internal/abi.NoEscape"], unfollowed := true, recurses := true, apart := false }
def TinyNoneSaid : Prop := tinyNoneRow.holds Try.pinned (OpenSpec.ofChange tinyNoneSpec)

/-- ITS FALSE NEIGHBOUR: 'it returns false'. Refute it at one input. -/
def tinyNoneWrong : ChangeSpec := { name := "tinyNone", fn := fun _ => fun
  | [d1, d2] => { results := [.lit (.bool false)], args := [d1, d2] }
  | _ => none }
def TinyNoneWrongFalsely : Prop := tinyNoneRow.holds Try.pinned (OpenSpec.ofChange tinyNoneWrong)

/- THE SECOND FORM. 'bulk': how many values and letters a reading holds, each counted each time it is reached (what is shared counts as often as it is met; a slice's spare places count too). A statement '..UptoSaid' is the law's where the arguments, and the package variables that the reading takes, are together of bulk at most 1048576: NARROWER than '..Said'. Prove '..Said' where nothing that the law and all that it calls make is longer than what came in: it says more and counts as full. Else prove '..UptoSaid'. A law counts once. -/
mutual
def uptoBulk {H : Type} : DataW H → Nat
  | .lit (.string bytes) => bytes.length + 1
  | .lit _ => 1
  | .nil => 1
  | .ptr d => uptoBulk d + 1
  | .slice elems spare => uptoBulkAll elems + uptoBulkAll spare + 1
  | .agg parts => uptoBulkAll parts + 1
  | .iface _ d => uptoBulk d + 1
  | .map entries => uptoBulkEntries entries + 1
  | .held _ => 1
def uptoBulkAll {H : Type} : List (DataW H) → Nat
  | [] => 0
  | d :: r => uptoBulk d + uptoBulkAll r
def uptoBulkEntries {H : Type} : List (Lit × DataW H) → Nat
  | [] => 0
  | x :: r => uptoBulkEntry x + uptoBulkEntries r
def uptoBulkEntry {H : Type} : Lit × DataW H → Nat
  | (.string bytes, d) => bytes.length + uptoBulk d + 1
  | (_, d) => uptoBulk d + 1
 end
def uptoSmall : (H : Type) → List (DataW H) → Bool := fun _ ds => decide (uptoBulkAll ds ≤ 1048576)
def OpenSpec.upto (s : _root_.Go.ChangeSpec) : _root_.Go.OpenSpec := { _root_.Go.OpenSpec.ofChange s with cond := some uptoSmall }

/-- 'hawthornlaw05.SketchLeast', WHERE WHAT IT READS IS OF BULK AT MOST 1048576: true; the input reads as it did. -/
def sketchLeastUptoRow : OpenClaim := { program := "ytlahbmoebbflbaa", sum := "082040a50234ef73d98c54755888a7e15909c1a70c946b6217774ae560eab351", func := "hawthorn/hawthornlaw05.SketchLeast", spec := "sketchLeast", apart := false, narrowed := true }
def SketchLeastUptoSaid : Prop := sketchLeastUptoRow.holds Try.pinned (OpenSpec.upto sketchLeastSpec)

/-- 'hawthornlaw05.SketchAdds', WHERE WHAT IT READS IS OF BULK AT MOST 1048576: true; the input reads as it did. -/
def sketchAddsUptoRow : OpenClaim := { program := "ytlahbmoebbflbaa", sum := "082040a50234ef73d98c54755888a7e15909c1a70c946b6217774ae560eab351", func := "hawthorn/hawthornlaw05.SketchAdds", spec := "sketchAdds", inPlace := ["internal/abi.NoEscape"], apart := false, narrowed := true }
def SketchAddsUptoSaid : Prop := sketchAddsUptoRow.holds Try.pinned (OpenSpec.upto sketchAddsSpec)

/-- 'hawthornlaw05.SketchAges', WHERE WHAT IT READS IS OF BULK AT MOST 1048576: true; the input reads as it did. -/
def sketchAgesUptoRow : OpenClaim := { program := "ytlahbmoebbflbaa", sum := "082040a50234ef73d98c54755888a7e15909c1a70c946b6217774ae560eab351", func := "hawthorn/hawthornlaw05.SketchAges", spec := "sketchAges", inPlace := ["internal/abi.NoEscape"], apart := false, narrowed := true }
def SketchAgesUptoSaid : Prop := sketchAgesUptoRow.holds Try.pinned (OpenSpec.upto sketchAgesSpec)

/-- 'hawthornlaw05.SketchNone', WHERE WHAT IT READS IS OF BULK AT MOST 1048576: true; the input reads as it did. -/
def sketchNoneUptoRow : OpenClaim := { program := "ytlahbmoebbflbaa", sum := "082040a50234ef73d98c54755888a7e15909c1a70c946b6217774ae560eab351", func := "hawthorn/hawthornlaw05.SketchNone", spec := "sketchNone", inPlace := ["internal/abi.NoEscape"], apart := false, narrowed := true }
def SketchNoneUptoSaid : Prop := sketchNoneUptoRow.holds Try.pinned (OpenSpec.upto sketchNoneSpec)

/-- 'hawthornlaw05.SketchGoesOn', WHERE WHAT IT READS IS OF BULK AT MOST 1048576: true; the input reads as it did. -/
def sketchGoesOnUptoRow : OpenClaim := { program := "ytlahbmoebbflbaa", sum := "082040a50234ef73d98c54755888a7e15909c1a70c946b6217774ae560eab351", func := "hawthorn/hawthornlaw05.SketchGoesOn", spec := "sketchGoesOn", inPlace := ["internal/abi.NoEscape"], unfollowed := true, recurses := true, apart := false, narrowed := true }
def SketchGoesOnUptoSaid : Prop := sketchGoesOnUptoRow.holds Try.pinned (OpenSpec.upto sketchGoesOnSpec)

/-- 'hawthornlaw08.TinyKeeps', WHERE WHAT IT READS IS OF BULK AT MOST 1048576: true; the input reads as it did. -/
def tinyKeepsUptoRow : OpenClaim := { program := "ytlahbmoebbflbaa", sum := "082040a50234ef73d98c54755888a7e15909c1a70c946b6217774ae560eab351", func := "hawthorn/hawthornlaw08.TinyKeeps", spec := "tinyKeeps", apart := false, narrowed := true }
def TinyKeepsUptoSaid : Prop := tinyKeepsUptoRow.holds Try.pinned (OpenSpec.upto tinyKeepsSpec)

/-- 'hawthornlaw08.TinyDuel', WHERE WHAT IT READS IS OF BULK AT MOST 1048576: true; the input reads as it did. -/
def tinyDuelUptoRow : OpenClaim := { program := "ytlahbmoebbflbaa", sum := "082040a50234ef73d98c54755888a7e15909c1a70c946b6217774ae560eab351", func := "hawthorn/hawthornlaw08.TinyDuel", spec := "tinyDuel", apart := false, narrowed := true }
def TinyDuelUptoSaid : Prop := tinyDuelUptoRow.holds Try.pinned (OpenSpec.upto tinyDuelSpec)

/-- 'hawthornlaw08.TinyBounds', WHERE WHAT IT READS IS OF BULK AT MOST 1048576: true; the input reads as it did. -/
def tinyBoundsUptoRow : OpenClaim := { program := "ytlahbmoebbflbaa", sum := "082040a50234ef73d98c54755888a7e15909c1a70c946b6217774ae560eab351", func := "hawthorn/hawthornlaw08.TinyBounds", spec := "tinyBounds", unfollowed := true, recurses := true, apart := false, narrowed := true }
def TinyBoundsUptoSaid : Prop := tinyBoundsUptoRow.holds Try.pinned (OpenSpec.upto tinyBoundsSpec)

/-- 'hawthornlaw08.TinyNone', WHERE WHAT IT READS IS OF BULK AT MOST 1048576: true; the input reads as it did. -/
def tinyNoneUptoRow : OpenClaim := { program := "ytlahbmoebbflbaa", sum := "082040a50234ef73d98c54755888a7e15909c1a70c946b6217774ae560eab351", func := "hawthorn/hawthornlaw08.TinyNone", spec := "tinyNone", inPlace := ["internal/abi.NoEscape"], unfollowed := true, recurses := true, apart := false, narrowed := true }
def TinyNoneUptoSaid : Prop := tinyNoneUptoRow.holds Try.pinned (OpenSpec.upto tinyNoneSpec)

end Rows
end Go.Proofs.Ytlahbmoebbflbaa
