/- The law hawthornlaw08.TinyBounds answers true at every input, and its input reads behind the call as before. Conditions: none. -/
import Derived.Test.YtlahbmoebbflbaaRows
import Derived.Test.YtlahbmoebbflbaaW6
import Derived.Test.YtlahbmoebbflbaaPmixA
import Derived.Test.YtlahbmoebbflbaaPskA
import Derived.Test.YtlahbmoebbflbaaPskB
import Derived.Test.YtlahbmoebbflbaaPskC
import Derived.Test.YtlahbmoebbflbaaPskP
import Derived.Test.YtlahbmoebbflbaaPringA
import Derived.Test.YtlahbmoebbflbaaPringB
import Derived.Test.YtlahbmoebbflbaaPringC
import Derived.Test.YtlahbmoebbflbaaPringD
import Derived.Test.YtlahbmoebbflbaaPringE
import Derived.Test.YtlahbmoebbflbaaPringF
import Derived.Test.YtlahbmoebbflbaaPtinyA
import Derived.Test.YtlahbmoebbflbaaPtinyB
import Derived.Test.YtlahbmoebbflbaaPtinyC
import Derived.Test.YtlahbmoebbflbaaPtinyK
import Derived.Test.YtlahbmoebbflbaaPringK
import Derived.Test.YtlahbmoebbflbaaPtinyD
set_option linter.unusedVariables false
set_option linter.unusedSectionVars false
set_option linter.unusedSimpArgs false
set_option maxRecDepth 100000
set_option maxHeartbeats 8000000
namespace Go.Proofs.Ytlahbmoebbflbaa.lawTinyBounds
open Go Go.Proofs.Ytlahbmoebbflbaa.Hw Go.Proofs.Ytlahbmoebbflbaa Go.ChangeShapes Go.WideShapes Go.RowKit
def hawthornlaw08_Act.wf (x : hawthornlaw08_Act) : Prop := iok x.Kind ∧ sok x.Key ∧ True
theorem hawthornlaw08_Act.opn61 : Opn Try.prog 61 (rE hawthornlaw08_Act.c fun _ x => hawthornlaw08_Act.wf x) :=
  (opn_struct Try.underlying61 rfl (by kernel_rfl) (opnF_cons (n := 1) rfl (by kernel_rfl) (opn_I Try.underlying3) (opnF_cons (n := 1) rfl (by kernel_rfl) (opn_S Try.underlying9) opnF_nil))).mono (fun x => ⟨x.1, x.2.1⟩) (by intro a; rfl) (by intro R a h; exact h)

theorem own : ownKnob Try.prog.godebug = none := by kernel_rfl
theorem laidOut : laidOutB Try.prog = true := by kernel_rfl
set_option maxRecDepth 100000 in
theorem lifted (os : Os) (started : os.Started) (H : Type) (enc : TypeId × Value → H) :
    ReturnsInHanded {} Try.checked os 10 .any (Rows.tinyBoundsSpec.pre6 enc Try.prog Try.f10 Rows.tinyBoundsRow.domain false) (Rows.tinyBoundsSpec.post enc Try.prog Try.f10 false true false false) := by
  refine law_lift (C := Try.checked) own started (by kernel_rfl) Try.func10 (ChangeSpec.witness6 (enc := enc) (C := Try.checked) false ⟨#[], #[.int .i64 0, .slice none 0 0], []⟩ 8 (by kernel_rfl) (by kernel_rfl) (by kernel_rfl) (by kernel_rfl))
    laidOut (by kernel_rfl) rfl (fun ds h => ?_) rfl Try.underlying4 (fun W base args ds p hval hA hz => ?_)
  · match ds, h with
    | [d0, d1], _ => rfl
  · have hA' : DataW.TrodAll enc Try.prog W 0 (fun _ => true) true Try.f10.params.toList args ds p := hA
    have hz' : (DataW.weightsEach Try.prog Try.f10.params.toList ds).all (· ≤ reachBytes) = true := hz
    have hval' : ∀ (j : Nat) t v, Try.f10.params[j]? = some t → args.toArray[j]? = some v → Value.okWide Try.prog W .any base t v := hval
    rw [Try.params10] at hA' hval' hz'
    obtain ⟨v0, vs0, d0, ds0, p0, q0, rfl, rfl, rfl, h0, r0⟩ := trodAll_cons hA'
    obtain ⟨v1, vs1, d1, ds1, p1, q1, rfl, rfl, rfl, h1, r1⟩ := trodAll_cons r0
    obtain ⟨rfl, rfl, rfl⟩ := trodAll_nil r1
    simp only [DataW.weightsEach, List.all_append, Bool.and_eq_true] at hz'
    obtain ⟨a0, rfl, k0⟩ := arg_I Try.underlying3 H enc W base v0 d0 p0 (hval' 0 _ v0 rfl rfl) h0 (hz'.1)
    obtain ⟨a1, s1, k1, y1⟩ := arg_slice Try.underlying54 (opn_slice (n := 2) (bytes := 24) Try.underlying54 (by kernel_rfl) (by decide) (by kernel_rfl) hawthornlaw08_Act.opn61) H enc W base v1 d1 p1 (hval' 1 _ v1 rfl rfl) h1 (hz'.2.1)
    exact (hawthornlaw08_TinyBounds.ok a0 v1 a1 s1 true (Go.Proofs.Ytlahbmoebbflbaa.Pure.TinyBounds a0 a1 k0 k1 y1)).mono fun _ _ _ _ ⟨v, he, hv⟩ => ⟨v, he, hv.1⟩
theorem over : Rows.tinyBoundsRow.holds Try.pinned (OpenSpec.ofChange Rows.tinyBoundsSpec) :=
  OpenClaim.holds_of_wide 10 Try.f10 rfl rfl rfl rfl rfl rfl rfl ⟨rfl, rfl, rfl, rfl, rfl⟩ rfl rfl rfl rfl rfl (by kernel_rfl) Try.func10 (by kernel_rfl)
    (of_decide_eq_true (by kernel_rfl)) (by unfold Func.isWrapper; first | (rw [if_pos (by decide +kernel)]; kernel_rfl) | (rw [if_neg (by decide +kernel)]; exact ⟨rfl, rfl⟩))
    (fun os started H enc _ => lifted os started H enc)
theorem proved : Rows.TinyBoundsSaid := over
#print axioms proved
end Go.Proofs.Ytlahbmoebbflbaa.lawTinyBounds
namespace Go.Proofs.Ytlahbmoebbflbaa
/-- The row, under a short name, for the claim. -/
theorem tinyBounds_holds : Rows.TinyBoundsSaid := lawTinyBounds.proved
end Go.Proofs.Ytlahbmoebbflbaa
