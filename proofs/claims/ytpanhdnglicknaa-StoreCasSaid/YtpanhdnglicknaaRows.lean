/-
  No cell of these rows narrows 'for every input' (looked for: loops, veiled, ifaces, maps, wideKeys, modest, calm, conditions, laid).
  DERIVED. THE GIVEN ROWS OF THIS SEAT. 3 by the template 'for every input the law returns true; each argument reads behind the call as it read before'; 0 by the template 'total and deterministic' (their statements: YtpanhdnglicknaaTotals.lean).
  GIVEN WITH THE SEED: the statements are not yours to turn. If you find one false, say at which input.
  Laid BY PROGRAM, IN A SANDBOX (cutbox-rows.mjs): the forced cells as the released guide's own fill.sh prints them over the translation 53c56758b8f79f40… (all of the seat's roots in one cut). By AI agents, Wed Nov 11 2026. No macro, syntax, notation, axiom, sorry.
-/
import Derived.Test.YtpanhdnglicknaaChecked
import GoSem.Claim
import GoSem.ClaimJoined
import GoSem.ClaimMapViews
import Derived.JoinedTies
import Derived.KernelRfl
namespace Go.Proofs.Ytpanhdnglicknaa
/- THE CELL 'sum', in the pinned program and in every row, IS THE sha256 OF THE DUMP (.gsa) THAT YtpanhdnglicknaaProg.lean LOADS. Nothing in Lean hashes anything: it is a label: what it is worth is what the hold of that sum in a sandbox is worth. -/
noncomputable def Try.pinned : Pinned := { name := "ytpanhdnglicknaa", sum := "53c56758b8f79f40721b554e8b495b56faee6c76049297cb4a4da5ca6b13650c", checked := Try.checked }
namespace Rows
def none {H : Type} : Left H := { results := [], args := [] }

/-- 'hawthornlaw12.StoreCas': WHATEVER THE INPUT: true; the input reads as it did. -/
def storeCasSpec : ChangeSpec := { name := "storeCas", fn := fun _ => fun
  | [d1, d2, d3] => { results := [.lit (.bool true)], args := [d1, d2, d3] }
  | _ => none }
def storeCasRow : OpenClaim := { program := "ytpanhdnglicknaa", sum := "53c56758b8f79f40721b554e8b495b56faee6c76049297cb4a4da5ca6b13650c", func := "hawthorn/hawthornlaw12.StoreCas", spec := "storeCas", unfollowed := true, recurses := true, apart := false }
def StoreCasSaid : Prop := storeCasRow.holds Try.pinned (OpenSpec.ofChange storeCasSpec)

/-- ITS FALSE NEIGHBOUR: 'it returns false'. Refute it at one input. -/
def storeCasWrong : ChangeSpec := { name := "storeCas", fn := fun _ => fun
  | [d1, d2, d3] => { results := [.lit (.bool false)], args := [d1, d2, d3] }
  | _ => none }
def StoreCasWrongFalsely : Prop := storeCasRow.holds Try.pinned (OpenSpec.ofChange storeCasWrong)

/-- 'hawthornlaw12.StoreEnds': WHATEVER THE INPUT: true; the input reads as it did. -/
def storeEndsSpec : ChangeSpec := { name := "storeEnds", fn := fun _ => fun
  | [d1, d2, d3] => { results := [.lit (.bool true)], args := [d1, d2, d3] }
  | _ => none }
def storeEndsRow : OpenClaim := { program := "ytpanhdnglicknaa", sum := "53c56758b8f79f40721b554e8b495b56faee6c76049297cb4a4da5ca6b13650c", func := "hawthorn/hawthornlaw12.StoreEnds", spec := "storeEnds", unfollowed := true, recurses := true, apart := false }
def StoreEndsSaid : Prop := storeEndsRow.holds Try.pinned (OpenSpec.ofChange storeEndsSpec)

/-- ITS FALSE NEIGHBOUR: 'it returns false'. Refute it at one input. -/
def storeEndsWrong : ChangeSpec := { name := "storeEnds", fn := fun _ => fun
  | [d1, d2, d3] => { results := [.lit (.bool false)], args := [d1, d2, d3] }
  | _ => none }
def StoreEndsWrongFalsely : Prop := storeEndsRow.holds Try.pinned (OpenSpec.ofChange storeEndsWrong)

/-- 'hawthornlaw12.StoreSessions': WHATEVER THE INPUT: true; the input reads as it did. -/
def storeSessionsSpec : ChangeSpec := { name := "storeSessions", fn := fun _ => fun
  | [d1, d2] => { results := [.lit (.bool true)], args := [d1, d2] }
  | _ => none }
def storeSessionsRow : OpenClaim := { program := "ytpanhdnglicknaa", sum := "53c56758b8f79f40721b554e8b495b56faee6c76049297cb4a4da5ca6b13650c", func := "hawthorn/hawthornlaw12.StoreSessions", spec := "storeSessions", unfollowed := true, recurses := true, apart := false }
def StoreSessionsSaid : Prop := storeSessionsRow.holds Try.pinned (OpenSpec.ofChange storeSessionsSpec)

/-- ITS FALSE NEIGHBOUR: 'it returns false'. Refute it at one input. -/
def storeSessionsWrong : ChangeSpec := { name := "storeSessions", fn := fun _ => fun
  | [d1, d2] => { results := [.lit (.bool false)], args := [d1, d2] }
  | _ => none }
def StoreSessionsWrongFalsely : Prop := storeSessionsRow.holds Try.pinned (OpenSpec.ofChange storeSessionsWrong)

/- THE SECOND FORM. 'bulk': how many values and letters a reading holds, each counted each time it is reached (what is shared counts as often as it is met; a slice's spare places count too). A statement '..UptoSaid' is the law's where the arguments, and the package variables that the reading takes, are together of bulk at most 1048576: NARROWER than '..Said'. Prove '..Said' where nothing that the law and all that it calls make is longer than what came in: it says more and counts as full. Else prove '..UptoSaid'. A law counts once. -/
mutual
def uptoBulk {H : Type} : DataW H → Nat
  | .lit (.string bytes) => bytes.length + 1
  | .lit _ => 1
  | .nil => 1
  | .ptr d => uptoBulk d + 1
  | .slice elems spare => uptoBulkAll elems + uptoBulkAll spare + 1
  | .agg parts => uptoBulkAll parts + 1
  | .iface _ d => uptoBulk d + 1
  | .map entries => uptoBulkEntries entries + 1
  | .held _ => 1
def uptoBulkAll {H : Type} : List (DataW H) → Nat
  | [] => 0
  | d :: r => uptoBulk d + uptoBulkAll r
def uptoBulkEntries {H : Type} : List (Lit × DataW H) → Nat
  | [] => 0
  | x :: r => uptoBulkEntry x + uptoBulkEntries r
def uptoBulkEntry {H : Type} : Lit × DataW H → Nat
  | (.string bytes, d) => bytes.length + uptoBulk d + 1
  | (_, d) => uptoBulk d + 1
 end
def uptoSmall : (H : Type) → List (DataW H) → Bool := fun _ ds => decide (uptoBulkAll ds ≤ 1048576)
def OpenSpec.upto (s : _root_.Go.ChangeSpec) : _root_.Go.OpenSpec := { _root_.Go.OpenSpec.ofChange s with cond := some uptoSmall }

/-- 'hawthornlaw12.StoreCas', WHERE WHAT IT READS IS OF BULK AT MOST 1048576: true; the input reads as it did. -/
def storeCasUptoRow : OpenClaim := { program := "ytpanhdnglicknaa", sum := "53c56758b8f79f40721b554e8b495b56faee6c76049297cb4a4da5ca6b13650c", func := "hawthorn/hawthornlaw12.StoreCas", spec := "storeCas", unfollowed := true, recurses := true, apart := false, narrowed := true }
def StoreCasUptoSaid : Prop := storeCasUptoRow.holds Try.pinned (OpenSpec.upto storeCasSpec)

/-- 'hawthornlaw12.StoreEnds', WHERE WHAT IT READS IS OF BULK AT MOST 1048576: true; the input reads as it did. -/
def storeEndsUptoRow : OpenClaim := { program := "ytpanhdnglicknaa", sum := "53c56758b8f79f40721b554e8b495b56faee6c76049297cb4a4da5ca6b13650c", func := "hawthorn/hawthornlaw12.StoreEnds", spec := "storeEnds", unfollowed := true, recurses := true, apart := false, narrowed := true }
def StoreEndsUptoSaid : Prop := storeEndsUptoRow.holds Try.pinned (OpenSpec.upto storeEndsSpec)

/-- 'hawthornlaw12.StoreSessions', WHERE WHAT IT READS IS OF BULK AT MOST 1048576: true; the input reads as it did. -/
def storeSessionsUptoRow : OpenClaim := { program := "ytpanhdnglicknaa", sum := "53c56758b8f79f40721b554e8b495b56faee6c76049297cb4a4da5ca6b13650c", func := "hawthorn/hawthornlaw12.StoreSessions", spec := "storeSessions", unfollowed := true, recurses := true, apart := false, narrowed := true }
def StoreSessionsUptoSaid : Prop := storeSessionsUptoRow.holds Try.pinned (OpenSpec.upto storeSessionsSpec)

end Rows
end Go.Proofs.Ytpanhdnglicknaa
