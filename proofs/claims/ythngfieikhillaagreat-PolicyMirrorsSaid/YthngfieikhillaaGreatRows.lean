/-
  No cell of these rows narrows 'for every input' (looked for: loops, veiled, ifaces, maps, wideKeys, modest, calm, conditions, laid).
  DERIVED. THE GIVEN ROWS OF THIS SEAT. 2 by the template 'for every input the law returns true; each argument reads behind the call as it read before'; 0 by the template 'total and deterministic' (their statements: YthngfieikhillaaGreatTotals.lean).
  GIVEN WITH THE SEED: the statements are not yours to turn. If you find one false, say at which input.
  Laid BY PROGRAM, IN A SANDBOX (cutbox-rows.mjs): the forced cells as the released guide's own fill.sh prints them over the translation 029f30bf6b99fba0… (all of the seat's roots in one cut). By AI agents, Wed Nov 11 2026. No macro, syntax, notation, axiom, sorry.
-/
import Derived.Test.YthngfieikhillaaGreatChecked
import GoSem.Claim
import GoSem.ClaimJoined
import GoSem.ClaimMapViews
import Derived.JoinedTies
import Derived.KernelRfl
namespace Go.Proofs.YthngfieikhillaaGreat
/- THE CELL 'sum', in the pinned program and in every row, IS THE sha256 OF THE DUMP (.gsa) THAT YthngfieikhillaaGreatProg.lean LOADS. Nothing in Lean hashes anything: it is a label: what it is worth is what the hold of that sum in a sandbox is worth. -/
noncomputable def Tryz.pinned : Pinned := { name := "ythngfieikhillaagreat", sum := "029f30bf6b99fba0279cb0594712faddea198dcdc4b596ec451a958fa771d6c9", checked := Tryz.checked }
namespace Rows
def none {H : Type} : Left H := { results := [], args := [] }

/-- 'hawthornlaw09.PolicyPlays': WHATEVER THE INPUT: true; the input reads as it did. -/
def policyPlaysSpec : ChangeSpec := { name := "policyPlays", fn := fun _ => fun
  | [d1, d2, d3] => { results := [.lit (.bool true)], args := [d1, d2, d3] }
  | _ => none }
def policyPlaysRow : OpenClaim := { program := "ythngfieikhillaagreat", sum := "029f30bf6b99fba0279cb0594712faddea198dcdc4b596ec451a958fa771d6c9", func := "hawthorn/hawthornlaw09.PolicyPlays", spec := "policyPlays", inPlace := ["internal/abi.NoEscape"], unfollowed := true, recurses := true, apart := false }
def PolicyPlaysSaid : Prop := policyPlaysRow.holds Tryz.pinned (OpenSpec.ofChange policyPlaysSpec)

/-- ITS FALSE NEIGHBOUR: 'it returns false'. Refute it at one input. -/
def policyPlaysWrong : ChangeSpec := { name := "policyPlays", fn := fun _ => fun
  | [d1, d2, d3] => { results := [.lit (.bool false)], args := [d1, d2, d3] }
  | _ => none }
def PolicyPlaysWrongFalsely : Prop := policyPlaysRow.holds Tryz.pinned (OpenSpec.ofChange policyPlaysWrong)

/-- 'hawthornlaw09.PolicyMirrors': WHATEVER THE INPUT: true; the input reads as it did. -/
def policyMirrorsSpec : ChangeSpec := { name := "policyMirrors", fn := fun _ => fun
  | [d1, d2, d3] => { results := [.lit (.bool true)], args := [d1, d2, d3] }
  | _ => none }
def policyMirrorsRow : OpenClaim := { program := "ythngfieikhillaagreat", sum := "029f30bf6b99fba0279cb0594712faddea198dcdc4b596ec451a958fa771d6c9", func := "hawthorn/hawthornlaw09.PolicyMirrors", spec := "policyMirrors", inPlace := ["internal/abi.NoEscape"], unfollowed := true, recurses := true, apart := false }
def PolicyMirrorsSaid : Prop := policyMirrorsRow.holds Tryz.pinned (OpenSpec.ofChange policyMirrorsSpec)

/-- ITS FALSE NEIGHBOUR: 'it returns false'. Refute it at one input. -/
def policyMirrorsWrong : ChangeSpec := { name := "policyMirrors", fn := fun _ => fun
  | [d1, d2, d3] => { results := [.lit (.bool false)], args := [d1, d2, d3] }
  | _ => none }
def PolicyMirrorsWrongFalsely : Prop := policyMirrorsRow.holds Tryz.pinned (OpenSpec.ofChange policyMirrorsWrong)

/- THE SECOND FORM. 'bulk': how many values and letters a reading holds, each counted each time it is reached (what is shared counts as often as it is met; a slice's spare places count too). A statement '..UptoSaid' is the law's where the arguments, and the package variables that the reading takes, are together of bulk at most 1048576: NARROWER than '..Said'. Prove '..Said' where nothing that the law and all that it calls make is longer than what came in: it says more and counts as full. Else prove '..UptoSaid'. A law counts once. -/
mutual
def uptoBulk {H : Type} : DataW H → Nat
  | .lit (.string bytes) => bytes.length + 1
  | .lit _ => 1
  | .nil => 1
  | .ptr d => uptoBulk d + 1
  | .slice elems spare => uptoBulkAll elems + uptoBulkAll spare + 1
  | .agg parts => uptoBulkAll parts + 1
  | .iface _ d => uptoBulk d + 1
  | .map entries => uptoBulkEntries entries + 1
  | .held _ => 1
def uptoBulkAll {H : Type} : List (DataW H) → Nat
  | [] => 0
  | d :: r => uptoBulk d + uptoBulkAll r
def uptoBulkEntries {H : Type} : List (Lit × DataW H) → Nat
  | [] => 0
  | x :: r => uptoBulkEntry x + uptoBulkEntries r
def uptoBulkEntry {H : Type} : Lit × DataW H → Nat
  | (.string bytes, d) => bytes.length + uptoBulk d + 1
  | (_, d) => uptoBulk d + 1
 end
def uptoSmall : (H : Type) → List (DataW H) → Bool := fun _ ds => decide (uptoBulkAll ds ≤ 1048576)
def OpenSpec.upto (s : _root_.Go.ChangeSpec) : _root_.Go.OpenSpec := { _root_.Go.OpenSpec.ofChange s with cond := some uptoSmall }

/-- 'hawthornlaw09.PolicyPlays', WHERE WHAT IT READS IS OF BULK AT MOST 1048576: true; the input reads as it did. -/
def policyPlaysUptoRow : OpenClaim := { program := "ythngfieikhillaagreat", sum := "029f30bf6b99fba0279cb0594712faddea198dcdc4b596ec451a958fa771d6c9", func := "hawthorn/hawthornlaw09.PolicyPlays", spec := "policyPlays", inPlace := ["internal/abi.NoEscape"], unfollowed := true, recurses := true, apart := false, narrowed := true }
def PolicyPlaysUptoSaid : Prop := policyPlaysUptoRow.holds Tryz.pinned (OpenSpec.upto policyPlaysSpec)

/-- 'hawthornlaw09.PolicyMirrors', WHERE WHAT IT READS IS OF BULK AT MOST 1048576: true; the input reads as it did. -/
def policyMirrorsUptoRow : OpenClaim := { program := "ythngfieikhillaagreat", sum := "029f30bf6b99fba0279cb0594712faddea198dcdc4b596ec451a958fa771d6c9", func := "hawthorn/hawthornlaw09.PolicyMirrors", spec := "policyMirrors", inPlace := ["internal/abi.NoEscape"], unfollowed := true, recurses := true, apart := false, narrowed := true }
def PolicyMirrorsUptoSaid : Prop := policyMirrorsUptoRow.holds Tryz.pinned (OpenSpec.upto policyMirrorsSpec)

end Rows
end Go.Proofs.YthngfieikhillaaGreat
