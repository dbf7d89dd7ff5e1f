/-
  No cell of these rows narrows 'for every input' (looked for: loops, veiled, ifaces, maps, wideKeys, modest, calm, conditions, laid).
  DERIVED. THE GIVEN ROWS OF THIS SEAT. 8 by the template 'for every input the law returns true; each argument reads behind the call as it read before'; 0 by the template 'total and deterministic' (their statements: YtpanhdnglicknaaGreatTotals.lean).
  GIVEN WITH THE SEED: the statements are not yours to turn. If you find one false, say at which input.
  Laid BY PROGRAM, IN A SANDBOX (cutbox-rows.mjs): the forced cells as the released guide's own fill.sh prints them over the translation cb4b25adb4119a6a… (all of the seat's roots in one cut). By AI agents, Wed Nov 11 2026. No macro, syntax, notation, axiom, sorry.
-/
import Derived.Test.YtpanhdnglicknaaGreatChecked
import GoSem.Claim
import GoSem.ClaimJoined
import GoSem.ClaimMapViews
import Derived.JoinedTies
import Derived.KernelRfl
namespace Go.Proofs.YtpanhdnglicknaaGreat
/- THE CELL 'sum', in the pinned program and in every row, IS THE sha256 OF THE DUMP (.gsa) THAT YtpanhdnglicknaaGreatProg.lean LOADS. Nothing in Lean hashes anything: it is a label: what it is worth is what the hold of that sum in a sandbox is worth. -/
noncomputable def Tryz.pinned : Pinned := { name := "ytpanhdnglicknaagreat", sum := "cb4b25adb4119a6ad9b66d52db1daa5d340911c21ead0d77a6c765e00e4a1f12", checked := Tryz.checked }
namespace Rows
def none {H : Type} : Left H := { results := [], args := [] }

/-- 'hawthornlaw12.StoreOnce': WHATEVER THE INPUT: true; the input reads as it did. -/
def storeOnceSpec : ChangeSpec := { name := "storeOnce", fn := fun _ => fun
  | [d1, d2, d3] => { results := [.lit (.bool true)], args := [d1, d2, d3] }
  | _ => none }
def storeOnceRow : OpenClaim := { program := "ytpanhdnglicknaagreat", sum := "cb4b25adb4119a6ad9b66d52db1daa5d340911c21ead0d77a6c765e00e4a1f12", func := "hawthorn/hawthornlaw12.StoreOnce", spec := "storeOnce", unfollowed := true, recurses := true, apart := false }
def StoreOnceSaid : Prop := storeOnceRow.holds Tryz.pinned (OpenSpec.ofChange storeOnceSpec)

/-- ITS FALSE NEIGHBOUR: 'it returns false'. Refute it at one input. -/
def storeOnceWrong : ChangeSpec := { name := "storeOnce", fn := fun _ => fun
  | [d1, d2, d3] => { results := [.lit (.bool false)], args := [d1, d2, d3] }
  | _ => none }
def StoreOnceWrongFalsely : Prop := storeOnceRow.holds Tryz.pinned (OpenSpec.ofChange storeOnceWrong)

/-- 'hawthornlaw12.StoreBounds': WHATEVER THE INPUT: true; the input reads as it did. -/
def storeBoundsSpec : ChangeSpec := { name := "storeBounds", fn := fun _ => fun
  | [d1, d2] => { results := [.lit (.bool true)], args := [d1, d2] }
  | _ => none }
def storeBoundsRow : OpenClaim := { program := "ytpanhdnglicknaagreat", sum := "cb4b25adb4119a6ad9b66d52db1daa5d340911c21ead0d77a6c765e00e4a1f12", func := "hawthorn/hawthornlaw12.StoreBounds", spec := "storeBounds", unfollowed := true, recurses := true, apart := false }
def StoreBoundsSaid : Prop := storeBoundsRow.holds Tryz.pinned (OpenSpec.ofChange storeBoundsSpec)

/-- ITS FALSE NEIGHBOUR: 'it returns false'. Refute it at one input. -/
def storeBoundsWrong : ChangeSpec := { name := "storeBounds", fn := fun _ => fun
  | [d1, d2] => { results := [.lit (.bool false)], args := [d1, d2] }
  | _ => none }
def StoreBoundsWrongFalsely : Prop := storeBoundsRow.holds Tryz.pinned (OpenSpec.ofChange storeBoundsWrong)

/-- 'hawthornlaw12.StoreTally': WHATEVER THE INPUT: true; the input reads as it did. -/
def storeTallySpec : ChangeSpec := { name := "storeTally", fn := fun _ => fun
  | [d1, d2] => { results := [.lit (.bool true)], args := [d1, d2] }
  | _ => none }
def storeTallyRow : OpenClaim := { program := "ytpanhdnglicknaagreat", sum := "cb4b25adb4119a6ad9b66d52db1daa5d340911c21ead0d77a6c765e00e4a1f12", func := "hawthorn/hawthornlaw12.StoreTally", spec := "storeTally", unfollowed := true, recurses := true, apart := false }
def StoreTallySaid : Prop := storeTallyRow.holds Tryz.pinned (OpenSpec.ofChange storeTallySpec)

/-- ITS FALSE NEIGHBOUR: 'it returns false'. Refute it at one input. -/
def storeTallyWrong : ChangeSpec := { name := "storeTally", fn := fun _ => fun
  | [d1, d2] => { results := [.lit (.bool false)], args := [d1, d2] }
  | _ => none }
def StoreTallyWrongFalsely : Prop := storeTallyRow.holds Tryz.pinned (OpenSpec.ofChange storeTallyWrong)

/-- 'hawthornlaw12.StoreMarks': WHATEVER THE INPUT: true; the input reads as it did. -/
def storeMarksSpec : ChangeSpec := { name := "storeMarks", fn := fun _ => fun
  | [d1, d2, d3] => { results := [.lit (.bool true)], args := [d1, d2, d3] }
  | _ => none }
def storeMarksRow : OpenClaim := { program := "ytpanhdnglicknaagreat", sum := "cb4b25adb4119a6ad9b66d52db1daa5d340911c21ead0d77a6c765e00e4a1f12", func := "hawthorn/hawthornlaw12.StoreMarks", spec := "storeMarks", unfollowed := true, recurses := true, apart := false }
def StoreMarksSaid : Prop := storeMarksRow.holds Tryz.pinned (OpenSpec.ofChange storeMarksSpec)

/-- ITS FALSE NEIGHBOUR: 'it returns false'. Refute it at one input. -/
def storeMarksWrong : ChangeSpec := { name := "storeMarks", fn := fun _ => fun
  | [d1, d2, d3] => { results := [.lit (.bool false)], args := [d1, d2, d3] }
  | _ => none }
def StoreMarksWrongFalsely : Prop := storeMarksRow.holds Tryz.pinned (OpenSpec.ofChange storeMarksWrong)

/-- 'hawthornlaw12.StorePlays': WHATEVER THE INPUT: true; the input reads as it did. -/
def storePlaysSpec : ChangeSpec := { name := "storePlays", fn := fun _ => fun
  | [d1, d2] => { results := [.lit (.bool true)], args := [d1, d2] }
  | _ => none }
def storePlaysRow : OpenClaim := { program := "ytpanhdnglicknaagreat", sum := "cb4b25adb4119a6ad9b66d52db1daa5d340911c21ead0d77a6c765e00e4a1f12", func := "hawthorn/hawthornlaw12.StorePlays", spec := "storePlays", inPlace := ["internal/abi.NoEscape"], unfollowed := true, recurses := true, apart := false }
def StorePlaysSaid : Prop := storePlaysRow.holds Tryz.pinned (OpenSpec.ofChange storePlaysSpec)

/-- ITS FALSE NEIGHBOUR: 'it returns false'. Refute it at one input. -/
def storePlaysWrong : ChangeSpec := { name := "storePlays", fn := fun _ => fun
  | [d1, d2] => { results := [.lit (.bool false)], args := [d1, d2] }
  | _ => none }
def StorePlaysWrongFalsely : Prop := storePlaysRow.holds Tryz.pinned (OpenSpec.ofChange storePlaysWrong)

/-- 'hawthornlaw12.StoreNone': WHATEVER THE INPUT: true; the input reads as it did. -/
def storeNoneSpec : ChangeSpec := { name := "storeNone", fn := fun _ => fun
  | [d1, d2] => { results := [.lit (.bool true)], args := [d1, d2] }
  | _ => none }
def storeNoneRow : OpenClaim := { program := "ytpanhdnglicknaagreat", sum := "cb4b25adb4119a6ad9b66d52db1daa5d340911c21ead0d77a6c765e00e4a1f12", func := "hawthorn/hawthornlaw12.StoreNone", spec := "storeNone", inPlace := ["internal/abi.NoEscape"], unfollowed := true, recurses := true, apart := false }
def StoreNoneSaid : Prop := storeNoneRow.holds Tryz.pinned (OpenSpec.ofChange storeNoneSpec)

/-- ITS FALSE NEIGHBOUR: 'it returns false'. Refute it at one input. -/
def storeNoneWrong : ChangeSpec := { name := "storeNone", fn := fun _ => fun
  | [d1, d2] => { results := [.lit (.bool false)], args := [d1, d2] }
  | _ => none }
def StoreNoneWrongFalsely : Prop := storeNoneRow.holds Tryz.pinned (OpenSpec.ofChange storeNoneWrong)

/-- 'hawthornlaw12.StoreMirrors': WHATEVER THE INPUT: true; the input reads as it did. -/
def storeMirrorsSpec : ChangeSpec := { name := "storeMirrors", fn := fun _ => fun
  | [d1, d2, d3] => { results := [.lit (.bool true)], args := [d1, d2, d3] }
  | _ => none }
def storeMirrorsRow : OpenClaim := { program := "ytpanhdnglicknaagreat", sum := "cb4b25adb4119a6ad9b66d52db1daa5d340911c21ead0d77a6c765e00e4a1f12", func := "hawthorn/hawthornlaw12.StoreMirrors", spec := "storeMirrors", inPlace := ["internal/abi.NoEscape"], unfollowed := true, recurses := true, apart := false }
def StoreMirrorsSaid : Prop := storeMirrorsRow.holds Tryz.pinned (OpenSpec.ofChange storeMirrorsSpec)

/-- ITS FALSE NEIGHBOUR: 'it returns false'. Refute it at one input. -/
def storeMirrorsWrong : ChangeSpec := { name := "storeMirrors", fn := fun _ => fun
  | [d1, d2, d3] => { results := [.lit (.bool false)], args := [d1, d2, d3] }
  | _ => none }
def StoreMirrorsWrongFalsely : Prop := storeMirrorsRow.holds Tryz.pinned (OpenSpec.ofChange storeMirrorsWrong)

/-- 'hawthornlaw12.StoreDigests': WHATEVER THE INPUT: true; the input reads as it did. -/
def storeDigestsSpec : ChangeSpec := { name := "storeDigests", fn := fun _ => fun
  | [d1, d2, d3] => { results := [.lit (.bool true)], args := [d1, d2, d3] }
  | _ => none }
def storeDigestsRow : OpenClaim := { program := "ytpanhdnglicknaagreat", sum := "cb4b25adb4119a6ad9b66d52db1daa5d340911c21ead0d77a6c765e00e4a1f12", func := "hawthorn/hawthornlaw12.StoreDigests", spec := "storeDigests", inPlace := ["internal/abi.NoEscape"], unfollowed := true, recurses := true, apart := false }
def StoreDigestsSaid : Prop := storeDigestsRow.holds Tryz.pinned (OpenSpec.ofChange storeDigestsSpec)

/-- ITS FALSE NEIGHBOUR: 'it returns false'. Refute it at one input. -/
def storeDigestsWrong : ChangeSpec := { name := "storeDigests", fn := fun _ => fun
  | [d1, d2, d3] => { results := [.lit (.bool false)], args := [d1, d2, d3] }
  | _ => none }
def StoreDigestsWrongFalsely : Prop := storeDigestsRow.holds Tryz.pinned (OpenSpec.ofChange storeDigestsWrong)

/- THE SECOND FORM. 'bulk': how many values and letters a reading holds, each counted each time it is reached (what is shared counts as often as it is met; a slice's spare places count too). A statement '..UptoSaid' is the law's where the arguments, and the package variables that the reading takes, are together of bulk at most 1048576: NARROWER than '..Said'. Prove '..Said' where nothing that the law and all that it calls make is longer than what came in: it says more and counts as full. Else prove '..UptoSaid'. A law counts once. -/
mutual
def uptoBulk {H : Type} : DataW H → Nat
  | .lit (.string bytes) => bytes.length + 1
  | .lit _ => 1
  | .nil => 1
  | .ptr d => uptoBulk d + 1
  | .slice elems spare => uptoBulkAll elems + uptoBulkAll spare + 1
  | .agg parts => uptoBulkAll parts + 1
  | .iface _ d => uptoBulk d + 1
  | .map entries => uptoBulkEntries entries + 1
  | .held _ => 1
def uptoBulkAll {H : Type} : List (DataW H) → Nat
  | [] => 0
  | d :: r => uptoBulk d + uptoBulkAll r
def uptoBulkEntries {H : Type} : List (Lit × DataW H) → Nat
  | [] => 0
  | x :: r => uptoBulkEntry x + uptoBulkEntries r
def uptoBulkEntry {H : Type} : Lit × DataW H → Nat
  | (.string bytes, d) => bytes.length + uptoBulk d + 1
  | (_, d) => uptoBulk d + 1
 end
def uptoSmall : (H : Type) → List (DataW H) → Bool := fun _ ds => decide (uptoBulkAll ds ≤ 1048576)
def OpenSpec.upto (s : _root_.Go.ChangeSpec) : _root_.Go.OpenSpec := { _root_.Go.OpenSpec.ofChange s with cond := some uptoSmall }

/-- 'hawthornlaw12.StoreOnce', WHERE WHAT IT READS IS OF BULK AT MOST 1048576: true; the input reads as it did. -/
def storeOnceUptoRow : OpenClaim := { program := "ytpanhdnglicknaagreat", sum := "cb4b25adb4119a6ad9b66d52db1daa5d340911c21ead0d77a6c765e00e4a1f12", func := "hawthorn/hawthornlaw12.StoreOnce", spec := "storeOnce", unfollowed := true, recurses := true, apart := false, narrowed := true }
def StoreOnceUptoSaid : Prop := storeOnceUptoRow.holds Tryz.pinned (OpenSpec.upto storeOnceSpec)

/-- 'hawthornlaw12.StoreBounds', WHERE WHAT IT READS IS OF BULK AT MOST 1048576: true; the input reads as it did. -/
def storeBoundsUptoRow : OpenClaim := { program := "ytpanhdnglicknaagreat", sum := "cb4b25adb4119a6ad9b66d52db1daa5d340911c21ead0d77a6c765e00e4a1f12", func := "hawthorn/hawthornlaw12.StoreBounds", spec := "storeBounds", unfollowed := true, recurses := true, apart := false, narrowed := true }
def StoreBoundsUptoSaid : Prop := storeBoundsUptoRow.holds Tryz.pinned (OpenSpec.upto storeBoundsSpec)

/-- 'hawthornlaw12.StoreTally', WHERE WHAT IT READS IS OF BULK AT MOST 1048576: true; the input reads as it did. -/
def storeTallyUptoRow : OpenClaim := { program := "ytpanhdnglicknaagreat", sum := "cb4b25adb4119a6ad9b66d52db1daa5d340911c21ead0d77a6c765e00e4a1f12", func := "hawthorn/hawthornlaw12.StoreTally", spec := "storeTally", unfollowed := true, recurses := true, apart := false, narrowed := true }
def StoreTallyUptoSaid : Prop := storeTallyUptoRow.holds Tryz.pinned (OpenSpec.upto storeTallySpec)

/-- 'hawthornlaw12.StoreMarks', WHERE WHAT IT READS IS OF BULK AT MOST 1048576: true; the input reads as it did. -/
def storeMarksUptoRow : OpenClaim := { program := "ytpanhdnglicknaagreat", sum := "cb4b25adb4119a6ad9b66d52db1daa5d340911c21ead0d77a6c765e00e4a1f12", func := "hawthorn/hawthornlaw12.StoreMarks", spec := "storeMarks", unfollowed := true, recurses := true, apart := false, narrowed := true }
def StoreMarksUptoSaid : Prop := storeMarksUptoRow.holds Tryz.pinned (OpenSpec.upto storeMarksSpec)

/-- 'hawthornlaw12.StorePlays', WHERE WHAT IT READS IS OF BULK AT MOST 1048576: true; the input reads as it did. -/
def storePlaysUptoRow : OpenClaim := { program := "ytpanhdnglicknaagreat", sum := "cb4b25adb4119a6ad9b66d52db1daa5d340911c21ead0d77a6c765e00e4a1f12", func := "hawthorn/hawthornlaw12.StorePlays", spec := "storePlays", inPlace := ["internal/abi.NoEscape"], unfollowed := true, recurses := true, apart := false, narrowed := true }
def StorePlaysUptoSaid : Prop := storePlaysUptoRow.holds Tryz.pinned (OpenSpec.upto storePlaysSpec)

/-- 'hawthornlaw12.StoreNone', WHERE WHAT IT READS IS OF BULK AT MOST 1048576: true; the input reads as it did. -/
def storeNoneUptoRow : OpenClaim := { program := "ytpanhdnglicknaagreat", sum := "cb4b25adb4119a6ad9b66d52db1daa5d340911c21ead0d77a6c765e00e4a1f12", func := "hawthorn/hawthornlaw12.StoreNone", spec := "storeNone", inPlace := ["internal/abi.NoEscape"], unfollowed := true, recurses := true, apart := false, narrowed := true }
def StoreNoneUptoSaid : Prop := storeNoneUptoRow.holds Tryz.pinned (OpenSpec.upto storeNoneSpec)

/-- 'hawthornlaw12.StoreMirrors', WHERE WHAT IT READS IS OF BULK AT MOST 1048576: true; the input reads as it did. -/
def storeMirrorsUptoRow : OpenClaim := { program := "ytpanhdnglicknaagreat", sum := "cb4b25adb4119a6ad9b66d52db1daa5d340911c21ead0d77a6c765e00e4a1f12", func := "hawthorn/hawthornlaw12.StoreMirrors", spec := "storeMirrors", inPlace := ["internal/abi.NoEscape"], unfollowed := true, recurses := true, apart := false, narrowed := true }
def StoreMirrorsUptoSaid : Prop := storeMirrorsUptoRow.holds Tryz.pinned (OpenSpec.upto storeMirrorsSpec)

/-- 'hawthornlaw12.StoreDigests', WHERE WHAT IT READS IS OF BULK AT MOST 1048576: true; the input reads as it did. -/
def storeDigestsUptoRow : OpenClaim := { program := "ytpanhdnglicknaagreat", sum := "cb4b25adb4119a6ad9b66d52db1daa5d340911c21ead0d77a6c765e00e4a1f12", func := "hawthorn/hawthornlaw12.StoreDigests", spec := "storeDigests", inPlace := ["internal/abi.NoEscape"], unfollowed := true, recurses := true, apart := false, narrowed := true }
def StoreDigestsUptoSaid : Prop := storeDigestsUptoRow.holds Tryz.pinned (OpenSpec.upto storeDigestsSpec)

end Rows
end Go.Proofs.YtpanhdnglicknaaGreat
