/- The law hawthornlaw12.StoreCas answers true at every input, and its input reads behind the call as before. Conditions: none. -/
import Derived.Test.YtpanhdnglicknaaRows
import Derived.Test.YtpanhdnglicknaaW2
import Derived.Test.YtpanhdnglicknaaPskZ
import Derived.Test.YtpanhdnglicknaaPskP
import Derived.Test.YtpanhdnglicknaaPringA
import Derived.Test.YtpanhdnglicknaaPringB
import Derived.Test.YtpanhdnglicknaaPringC
import Derived.Test.YtpanhdnglicknaaPringD
import Derived.Test.YtpanhdnglicknaaPringE
import Derived.Test.YtpanhdnglicknaaPringF
import Derived.Test.YtpanhdnglicknaaPtinyZ
import Derived.Test.YtpanhdnglicknaaPtinyB
import Derived.Test.YtpanhdnglicknaaPtinyC
import Derived.Test.YtpanhdnglicknaaPtinyY
import Derived.Test.YtpanhdnglicknaaParcA
import Derived.Test.YtpanhdnglicknaaParcB
import Derived.Test.YtpanhdnglicknaaPpolA
import Derived.Test.YtpanhdnglicknaaPstA
import Derived.Test.YtpanhdnglicknaaPstB
import Derived.Test.YtpanhdnglicknaaPstC
import Derived.Test.YtpanhdnglicknaaPstE
import Derived.Test.YtpanhdnglicknaaPstD
import Derived.Test.YtpanhdnglicknaaPstS
import Derived.Test.YtpanhdnglicknaaPstK
set_option linter.unusedVariables false
set_option linter.unusedSectionVars false
set_option linter.unusedSimpArgs false
set_option maxRecDepth 100000
set_option maxHeartbeats 8000000
namespace Go.Proofs.Ytpanhdnglicknaa.lawStoreCas
open Go Go.Proofs.Ytpanhdnglicknaa.Hw Go.Proofs.Ytpanhdnglicknaa Go.ChangeShapes Go.WideShapes Go.RowKit


theorem own : ownKnob Try.prog.godebug = none := by kernel_rfl
theorem laidOut : laidOutB Try.prog = true := by kernel_rfl
set_option maxRecDepth 100000 in
theorem lifted (os : Os) (started : os.Started) (H : Type) (enc : TypeId × Value → H) :
    ReturnsInHanded {} Try.checked os 3 .any (Rows.storeCasSpec.pre6 enc Try.prog Try.f3 Rows.storeCasRow.domain false) (Rows.storeCasSpec.post enc Try.prog Try.f3 false true false false) := by
  refine law_lift (C := Try.checked) own started (by kernel_rfl) Try.func3 (ChangeSpec.witness6 (enc := enc) (C := Try.checked) false ⟨#[], #[.string ByteArray.empty, .string ByteArray.empty, .int .u64 0], []⟩ 8 (by kernel_rfl) (by kernel_rfl) (by kernel_rfl) (by kernel_rfl))
    laidOut (by kernel_rfl) rfl (fun ds h => ?_) rfl Try.underlying4 (fun W base args ds p hval hA hz => ?_)
  · match ds, h with
    | [d0, d1, d2], _ => rfl
  · have hA' : DataW.TrodAll enc Try.prog W 0 (fun _ => true) true Try.f3.params.toList args ds p := hA
    have hz' : (DataW.weightsEach Try.prog Try.f3.params.toList ds).all (· ≤ reachBytes) = true := hz
    have hval' : ∀ (j : Nat) t v, Try.f3.params[j]? = some t → args.toArray[j]? = some v → Value.okWide Try.prog W .any base t v := hval
    rw [Try.params3] at hA' hval' hz'
    obtain ⟨v0, vs0, d0, ds0, p0, q0, rfl, rfl, rfl, h0, r0⟩ := trodAll_cons hA'
    obtain ⟨v1, vs1, d1, ds1, p1, q1, rfl, rfl, rfl, h1, r1⟩ := trodAll_cons r0
    obtain ⟨v2, vs2, d2, ds2, p2, q2, rfl, rfl, rfl, h2, r2⟩ := trodAll_cons r1
    obtain ⟨rfl, rfl, rfl⟩ := trodAll_nil r2
    simp only [DataW.weightsEach, List.all_append, Bool.and_eq_true] at hz'
    obtain ⟨a0, rfl, k0⟩ := arg_S Try.underlying9 H enc W base v0 d0 p0 (hval' 0 _ v0 rfl rfl) h0 (hz'.1)
    obtain ⟨a1, rfl, k1⟩ := arg_S Try.underlying9 H enc W base v1 d1 p1 (hval' 1 _ v1 rfl rfl) h1 (hz'.2.1)
    obtain ⟨a2, rfl⟩ := arg_W Try.underlying22 H enc W base v2 d2 p2 (hval' 2 _ v2 rfl rfl) h2 (hz'.2.2.1)
    exact (hawthornlaw12_StoreCas.ok a0 a1 a2 true (Go.Proofs.Ytpanhdnglicknaa.Pure.StoreCas a0 a1 a2 k0 k1)).mono fun _ _ _ _ ⟨v, he, hv⟩ => ⟨v, he, hv.1⟩
theorem over : Rows.storeCasRow.holds Try.pinned (OpenSpec.ofChange Rows.storeCasSpec) :=
  OpenClaim.holds_of_wide 3 Try.f3 rfl rfl rfl rfl rfl rfl rfl ⟨rfl, rfl, rfl, rfl, rfl⟩ rfl rfl rfl rfl rfl (by kernel_rfl) Try.func3 (by kernel_rfl)
    (of_decide_eq_true (by kernel_rfl)) (by unfold Func.isWrapper; first | (rw [if_pos (by decide +kernel)]; kernel_rfl) | (rw [if_neg (by decide +kernel)]; exact ⟨rfl, rfl⟩))
    (fun os started H enc _ => lifted os started H enc)
theorem proved : Rows.StoreCasSaid := over
#print axioms proved
end Go.Proofs.Ytpanhdnglicknaa.lawStoreCas
namespace Go.Proofs.Ytpanhdnglicknaa
/-- The row, under a short name, for the claim. -/
theorem storeCas_holds : Rows.StoreCasSaid := lawStoreCas.proved
end Go.Proofs.Ytpanhdnglicknaa
