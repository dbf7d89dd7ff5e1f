/-
  No cell of these rows narrows 'for every input' (looked for: loops, veiled, ifaces, maps, wideKeys, modest, calm, conditions, laid).
  DERIVED. THE GIVEN ROWS OF THIS SEAT. 4 by the template 'for every input the law returns true; each argument reads behind the call as it read before'; 0 by the template 'total and deterministic' (their statements: YthngfieikhillaaTotals.lean).
  GIVEN WITH THE SEED: the statements are not yours to turn. If you find one false, say at which input.
  Laid BY PROGRAM, IN A SANDBOX (cutbox-rows.mjs): the forced cells as the released guide's own fill.sh prints them over the translation 6748becac1d25c51… (all of the seat's roots in one cut). By AI agents, Wed Nov 11 2026. No macro, syntax, notation, axiom, sorry.
-/
import Derived.Test.YthngfieikhillaaChecked
import GoSem.Claim
import GoSem.ClaimJoined
import GoSem.ClaimMapViews
import Derived.JoinedTies
import Derived.KernelRfl
namespace Go.Proofs.Ythngfieikhillaa
/- THE CELL 'sum', in the pinned program and in every row, IS THE sha256 OF THE DUMP (.gsa) THAT YthngfieikhillaaProg.lean LOADS. Nothing in Lean hashes anything: it is a label: what it is worth is what the hold of that sum in a sandbox is worth. -/
noncomputable def Try.pinned : Pinned := { name := "ythngfieikhillaa", sum := "6748becac1d25c51e2ae89101b40343bfbaada3b914f98869b8a6e3f281352a2", checked := Try.checked }
namespace Rows
def none {H : Type} : Left H := { results := [], args := [] }

/-- 'hawthornlaw18.SaySeals': WHATEVER THE INPUT: true; the input reads as it did. -/
def saySealsSpec : ChangeSpec := { name := "saySeals", fn := fun _ => fun
  | [d1, d2, d3] => { results := [.lit (.bool true)], args := [d1, d2, d3] }
  | _ => none }
def saySealsRow : OpenClaim := { program := "ythngfieikhillaa", sum := "6748becac1d25c51e2ae89101b40343bfbaada3b914f98869b8a6e3f281352a2", func := "hawthorn/hawthornlaw18.SaySeals", spec := "saySeals", inPlace := ["internal/abi.NoEscape"], unfollowed := true, recurses := true, apart := false }
def SaySealsSaid : Prop := saySealsRow.holds Try.pinned (OpenSpec.ofChange saySealsSpec)

/-- ITS FALSE NEIGHBOUR: 'it returns false'. Refute it at one input. -/
def saySealsWrong : ChangeSpec := { name := "saySeals", fn := fun _ => fun
  | [d1, d2, d3] => { results := [.lit (.bool false)], args := [d1, d2, d3] }
  | _ => none }
def SaySealsWrongFalsely : Prop := saySealsRow.holds Try.pinned (OpenSpec.ofChange saySealsWrong)

/-- 'hawthornlaw21.ClientPlays': WHATEVER THE INPUT: true; the input reads as it did. -/
def clientPlaysSpec : ChangeSpec := { name := "clientPlays", fn := fun _ => fun
  | [d1, d2] => { results := [.lit (.bool true)], args := [d1, d2] }
  | _ => none }
def clientPlaysRow : OpenClaim := { program := "ythngfieikhillaa", sum := "6748becac1d25c51e2ae89101b40343bfbaada3b914f98869b8a6e3f281352a2", func := "hawthorn/hawthornlaw21.ClientPlays", spec := "clientPlays", inPlace := ["internal/abi.NoEscape"], unfollowed := true, recurses := true, apart := false }
def ClientPlaysSaid : Prop := clientPlaysRow.holds Try.pinned (OpenSpec.ofChange clientPlaysSpec)

/-- ITS FALSE NEIGHBOUR: 'it returns false'. Refute it at one input. -/
def clientPlaysWrong : ChangeSpec := { name := "clientPlays", fn := fun _ => fun
  | [d1, d2] => { results := [.lit (.bool false)], args := [d1, d2] }
  | _ => none }
def ClientPlaysWrongFalsely : Prop := clientPlaysRow.holds Try.pinned (OpenSpec.ofChange clientPlaysWrong)

/-- 'hawthornlaw21.ClientEpochs': WHATEVER THE INPUT: true; the input reads as it did. -/
def clientEpochsSpec : ChangeSpec := { name := "clientEpochs", fn := fun _ => fun
  | [d] => { results := [.lit (.bool true)], args := [d] }
  | _ => none }
def clientEpochsRow : OpenClaim := { program := "ythngfieikhillaa", sum := "6748becac1d25c51e2ae89101b40343bfbaada3b914f98869b8a6e3f281352a2", func := "hawthorn/hawthornlaw21.ClientEpochs", spec := "clientEpochs", inPlace := ["internal/abi.NoEscape"], unfollowed := true, recurses := true, apart := false }
def ClientEpochsSaid : Prop := clientEpochsRow.holds Try.pinned (OpenSpec.ofChange clientEpochsSpec)

/-- ITS FALSE NEIGHBOUR: 'it returns false'. Refute it at one input. -/
def clientEpochsWrong : ChangeSpec := { name := "clientEpochs", fn := fun _ => fun
  | [d] => { results := [.lit (.bool false)], args := [d] }
  | _ => none }
def ClientEpochsWrongFalsely : Prop := clientEpochsRow.holds Try.pinned (OpenSpec.ofChange clientEpochsWrong)

/-- 'hawthornlaw09.PolicyNone': WHATEVER THE INPUT: true; the input reads as it did. -/
def policyNoneSpec : ChangeSpec := { name := "policyNone", fn := fun _ => fun
  | [d1, d2] => { results := [.lit (.bool true)], args := [d1, d2] }
  | _ => none }
def policyNoneRow : OpenClaim := { program := "ythngfieikhillaa", sum := "6748becac1d25c51e2ae89101b40343bfbaada3b914f98869b8a6e3f281352a2", func := "hawthorn/hawthornlaw09.PolicyNone", spec := "policyNone", inPlace := ["internal/abi.NoEscape"], unfollowed := true, recurses := true, apart := false }
def PolicyNoneSaid : Prop := policyNoneRow.holds Try.pinned (OpenSpec.ofChange policyNoneSpec)

/-- ITS FALSE NEIGHBOUR: 'it returns false'. Refute it at one input. -/
def policyNoneWrong : ChangeSpec := { name := "policyNone", fn := fun _ => fun
  | [d1, d2] => { results := [.lit (.bool false)], args := [d1, d2] }
  | _ => none }
def PolicyNoneWrongFalsely : Prop := policyNoneRow.holds Try.pinned (OpenSpec.ofChange policyNoneWrong)

/- THE SECOND FORM. 'bulk': how many values and letters a reading holds, each counted each time it is reached (what is shared counts as often as it is met; a slice's spare places count too). A statement '..UptoSaid' is the law's where the arguments, and the package variables that the reading takes, are together of bulk at most 1048576: NARROWER than '..Said'. Prove '..Said' where nothing that the law and all that it calls make is longer than what came in: it says more and counts as full. Else prove '..UptoSaid'. A law counts once. -/
mutual
def uptoBulk {H : Type} : DataW H → Nat
  | .lit (.string bytes) => bytes.length + 1
  | .lit _ => 1
  | .nil => 1
  | .ptr d => uptoBulk d + 1
  | .slice elems spare => uptoBulkAll elems + uptoBulkAll spare + 1
  | .agg parts => uptoBulkAll parts + 1
  | .iface _ d => uptoBulk d + 1
  | .map entries => uptoBulkEntries entries + 1
  | .held _ => 1
def uptoBulkAll {H : Type} : List (DataW H) → Nat
  | [] => 0
  | d :: r => uptoBulk d + uptoBulkAll r
def uptoBulkEntries {H : Type} : List (Lit × DataW H) → Nat
  | [] => 0
  | x :: r => uptoBulkEntry x + uptoBulkEntries r
def uptoBulkEntry {H : Type} : Lit × DataW H → Nat
  | (.string bytes, d) => bytes.length + uptoBulk d + 1
  | (_, d) => uptoBulk d + 1
 end
def uptoSmall : (H : Type) → List (DataW H) → Bool := fun _ ds => decide (uptoBulkAll ds ≤ 1048576)
def OpenSpec.upto (s : _root_.Go.ChangeSpec) : _root_.Go.OpenSpec := { _root_.Go.OpenSpec.ofChange s with cond := some uptoSmall }

/-- 'hawthornlaw18.SaySeals', WHERE WHAT IT READS IS OF BULK AT MOST 1048576: true; the input reads as it did. -/
def saySealsUptoRow : OpenClaim := { program := "ythngfieikhillaa", sum := "6748becac1d25c51e2ae89101b40343bfbaada3b914f98869b8a6e3f281352a2", func := "hawthorn/hawthornlaw18.SaySeals", spec := "saySeals", inPlace := ["internal/abi.NoEscape"], unfollowed := true, recurses := true, apart := false, narrowed := true }
def SaySealsUptoSaid : Prop := saySealsUptoRow.holds Try.pinned (OpenSpec.upto saySealsSpec)

/-- 'hawthornlaw21.ClientPlays', WHERE WHAT IT READS IS OF BULK AT MOST 1048576: true; the input reads as it did. -/
def clientPlaysUptoRow : OpenClaim := { program := "ythngfieikhillaa", sum := "6748becac1d25c51e2ae89101b40343bfbaada3b914f98869b8a6e3f281352a2", func := "hawthorn/hawthornlaw21.ClientPlays", spec := "clientPlays", inPlace := ["internal/abi.NoEscape"], unfollowed := true, recurses := true, apart := false, narrowed := true }
def ClientPlaysUptoSaid : Prop := clientPlaysUptoRow.holds Try.pinned (OpenSpec.upto clientPlaysSpec)

/-- 'hawthornlaw21.ClientEpochs', WHERE WHAT IT READS IS OF BULK AT MOST 1048576: true; the input reads as it did. -/
def clientEpochsUptoRow : OpenClaim := { program := "ythngfieikhillaa", sum := "6748becac1d25c51e2ae89101b40343bfbaada3b914f98869b8a6e3f281352a2", func := "hawthorn/hawthornlaw21.ClientEpochs", spec := "clientEpochs", inPlace := ["internal/abi.NoEscape"], unfollowed := true, recurses := true, apart := false, narrowed := true }
def ClientEpochsUptoSaid : Prop := clientEpochsUptoRow.holds Try.pinned (OpenSpec.upto clientEpochsSpec)

/-- 'hawthornlaw09.PolicyNone', WHERE WHAT IT READS IS OF BULK AT MOST 1048576: true; the input reads as it did. -/
def policyNoneUptoRow : OpenClaim := { program := "ythngfieikhillaa", sum := "6748becac1d25c51e2ae89101b40343bfbaada3b914f98869b8a6e3f281352a2", func := "hawthorn/hawthornlaw09.PolicyNone", spec := "policyNone", inPlace := ["internal/abi.NoEscape"], unfollowed := true, recurses := true, apart := false, narrowed := true }
def PolicyNoneUptoSaid : Prop := policyNoneUptoRow.holds Try.pinned (OpenSpec.upto policyNoneSpec)

end Rows
end Go.Proofs.Ythngfieikhillaa
