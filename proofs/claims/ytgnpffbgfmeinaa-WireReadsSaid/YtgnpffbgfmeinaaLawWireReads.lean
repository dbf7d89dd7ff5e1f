/- The law hawthornlaw03.WireReads answers true at every input, and its input reads behind the call as before. Conditions: none. -/
import Derived.Test.YtgnpffbgfmeinaaRows
import Derived.Test.YtgnpffbgfmeinaaW1
import Derived.Test.YtgnpffbgfmeinaaPwireA
import Derived.Test.YtgnpffbgfmeinaaPwireB
import Derived.Test.YtgnpffbgfmeinaaPwireC
import Derived.Test.YtgnpffbgfmeinaaPwireD
import Derived.Test.YtgnpffbgfmeinaaPwireE
import Derived.Test.YtgnpffbgfmeinaaPwireF
import Derived.Test.YtgnpffbgfmeinaaPwireG
import Derived.Test.YtgnpffbgfmeinaaPwireH
import Derived.Test.YtgnpffbgfmeinaaPwireI
import Derived.Test.YtgnpffbgfmeinaaPwireJ
import Derived.Test.YtgnpffbgfmeinaaPwireK
import Derived.Test.YtgnpffbgfmeinaaPwireL
import Derived.Test.YtgnpffbgfmeinaaPwireM
import Derived.Test.YtgnpffbgfmeinaaPwireN
import Derived.Test.YtgnpffbgfmeinaaPwireO
set_option linter.unusedVariables false
set_option linter.unusedSectionVars false
set_option linter.unusedSimpArgs false
set_option maxRecDepth 100000
set_option maxHeartbeats 8000000
namespace Go.Proofs.Ytgnpffbgfmeinaa.lawWireReads
open Go Go.Proofs.Ytgnpffbgfmeinaa.Hw Go.Proofs.Ytgnpffbgfmeinaa Go.ChangeShapes Go.WideShapes Go.RowKit
def hawthornlaw03_Step.wf (x : hawthornlaw03_Step) : Prop := iok x.Kind ∧ iok x.N ∧ True ∧ True
theorem hawthornlaw03_Step.opn53 : Opn Try.prog 53 (rE hawthornlaw03_Step.c fun _ x => hawthornlaw03_Step.wf x) :=
  (opn_struct Try.underlying53 rfl (by kernel_rfl) (opnF_cons (n := 1) rfl (by kernel_rfl) (opn_I Try.underlying3) (opnF_cons (n := 1) rfl (by kernel_rfl) (opn_I Try.underlying3) (opnF_cons (n := 1) rfl (by kernel_rfl) (opn_B Try.underlying4) opnF_nil)))).mono (fun x => ⟨x.1, x.2.1, x.2.2.1⟩) (by intro a; rfl) (by intro R a h; exact h)

theorem own : ownKnob Try.prog.godebug = none := by kernel_rfl
theorem laidOut : laidOutB Try.prog = true := by kernel_rfl
set_option maxRecDepth 100000 in
theorem lifted (os : Os) (started : os.Started) (H : Type) (enc : TypeId × Value → H) :
    ReturnsInHanded {} Try.checked os 9 .any (Rows.wireReadsSpec.pre6 enc Try.prog Try.f9 Rows.wireReadsRow.domain false) (Rows.wireReadsSpec.post enc Try.prog Try.f9 false true false false) := by
  refine law_lift (C := Try.checked) own started (by kernel_rfl) Try.func9 (ChangeSpec.witness6 (enc := enc) (C := Try.checked) false ⟨#[], #[.string ByteArray.empty, .slice none 0 0], []⟩ 8 (by kernel_rfl) (by kernel_rfl) (by kernel_rfl) (by kernel_rfl))
    laidOut (by kernel_rfl) rfl (fun ds h => ?_) rfl Try.underlying4 (fun W base args ds p hval hA hz => ?_)
  · match ds, h with
    | [d0, d1], _ => rfl
  · have hA' : DataW.TrodAll enc Try.prog W 0 (fun _ => true) true Try.f9.params.toList args ds p := hA
    have hz' : (DataW.weightsEach Try.prog Try.f9.params.toList ds).all (· ≤ reachBytes) = true := hz
    have hval' : ∀ (j : Nat) t v, Try.f9.params[j]? = some t → args.toArray[j]? = some v → Value.okWide Try.prog W .any base t v := hval
    rw [Try.params9] at hA' hval' hz'
    obtain ⟨v0, vs0, d0, ds0, p0, q0, rfl, rfl, rfl, h0, r0⟩ := trodAll_cons hA'
    obtain ⟨v1, vs1, d1, ds1, p1, q1, rfl, rfl, rfl, h1, r1⟩ := trodAll_cons r0
    obtain ⟨rfl, rfl, rfl⟩ := trodAll_nil r1
    simp only [DataW.weightsEach, List.all_append, Bool.and_eq_true] at hz'
    obtain ⟨a0, rfl, k0⟩ := arg_S Try.underlying9 H enc W base v0 d0 p0 (hval' 0 _ v0 rfl rfl) h0 (hz'.1)
    obtain ⟨a1, s1, k1, y1⟩ := arg_slice Try.underlying50 (opn_slice (n := 3) (bytes := 24) Try.underlying50 (by kernel_rfl) (by decide) (by kernel_rfl) hawthornlaw03_Step.opn53) H enc W base v1 d1 p1 (hval' 1 _ v1 rfl rfl) h1 (hz'.2.1)
    exact (hawthornlaw03_WireReads.ok a0 v1 a1 s1 true (Go.Proofs.Ytgnpffbgfmeinaa.Pure.WireReads a0 a1 k0 k1 y1)).mono fun _ _ _ _ ⟨v, he, hv⟩ => ⟨v, he, hv.1⟩
theorem over : Rows.wireReadsRow.holds Try.pinned (OpenSpec.ofChange Rows.wireReadsSpec) :=
  OpenClaim.holds_of_wide 9 Try.f9 rfl rfl rfl rfl rfl rfl rfl ⟨rfl, rfl, rfl, rfl, rfl⟩ rfl rfl rfl rfl rfl (by kernel_rfl) Try.func9 (by kernel_rfl)
    (of_decide_eq_true (by kernel_rfl)) (by unfold Func.isWrapper; first | (rw [if_pos (by decide +kernel)]; kernel_rfl) | (rw [if_neg (by decide +kernel)]; exact ⟨rfl, rfl⟩))
    (fun os started H enc _ => lifted os started H enc)
theorem proved : Rows.WireReadsSaid := over
#print axioms proved
end Go.Proofs.Ytgnpffbgfmeinaa.lawWireReads
namespace Go.Proofs.Ytgnpffbgfmeinaa
/-- The row, under a short name, for the claim. -/
theorem wireReads_holds : Rows.WireReadsSaid := lawWireReads.proved
end Go.Proofs.Ytgnpffbgfmeinaa
