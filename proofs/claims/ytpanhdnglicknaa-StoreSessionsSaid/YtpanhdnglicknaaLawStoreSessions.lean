/- The law hawthornlaw12.StoreSessions answers true at every input, and its input reads behind the call as before. Conditions: none. -/
import Derived.Test.YtpanhdnglicknaaRows
import Derived.Test.YtpanhdnglicknaaW2
import Derived.Test.YtpanhdnglicknaaPskZ
import Derived.Test.YtpanhdnglicknaaPskP
import Derived.Test.YtpanhdnglicknaaPringA
import Derived.Test.YtpanhdnglicknaaPringB
import Derived.Test.YtpanhdnglicknaaPringC
import Derived.Test.YtpanhdnglicknaaPringD
import Derived.Test.YtpanhdnglicknaaPringE
import Derived.Test.YtpanhdnglicknaaPringF
import Derived.Test.YtpanhdnglicknaaPtinyZ
import Derived.Test.YtpanhdnglicknaaPtinyB
import Derived.Test.YtpanhdnglicknaaPtinyC
import Derived.Test.YtpanhdnglicknaaPtinyY
import Derived.Test.YtpanhdnglicknaaParcA
import Derived.Test.YtpanhdnglicknaaParcB
import Derived.Test.YtpanhdnglicknaaPpolA
import Derived.Test.YtpanhdnglicknaaPstA
import Derived.Test.YtpanhdnglicknaaPstB
import Derived.Test.YtpanhdnglicknaaPstC
import Derived.Test.YtpanhdnglicknaaPstE
import Derived.Test.YtpanhdnglicknaaPstD
import Derived.Test.YtpanhdnglicknaaPstS
set_option linter.unusedVariables false
set_option linter.unusedSectionVars false
set_option linter.unusedSimpArgs false
set_option maxRecDepth 100000
set_option maxHeartbeats 8000000
namespace Go.Proofs.Ytpanhdnglicknaa.lawStoreSessions
open Go Go.Proofs.Ytpanhdnglicknaa.Hw Go.Proofs.Ytpanhdnglicknaa Go.ChangeShapes Go.WideShapes Go.RowKit


theorem own : ownKnob Try.prog.godebug = none := by kernel_rfl
theorem laidOut : laidOutB Try.prog = true := by kernel_rfl
set_option maxRecDepth 100000 in
theorem lifted (os : Os) (started : os.Started) (H : Type) (enc : TypeId × Value → H) :
    ReturnsInHanded {} Try.checked os 5 .any (Rows.storeSessionsSpec.pre6 enc Try.prog Try.f5 Rows.storeSessionsRow.domain false) (Rows.storeSessionsSpec.post enc Try.prog Try.f5 false true false false) := by
  refine law_lift (C := Try.checked) own started (by kernel_rfl) Try.func5 (ChangeSpec.witness6 (enc := enc) (C := Try.checked) false ⟨#[], #[.int .i64 0, .string ByteArray.empty], []⟩ 8 (by kernel_rfl) (by kernel_rfl) (by kernel_rfl) (by kernel_rfl))
    laidOut (by kernel_rfl) rfl (fun ds h => ?_) rfl Try.underlying4 (fun W base args ds p hval hA hz => ?_)
  · match ds, h with
    | [d0, d1], _ => rfl
  · have hA' : DataW.TrodAll enc Try.prog W 0 (fun _ => true) true Try.f5.params.toList args ds p := hA
    have hz' : (DataW.weightsEach Try.prog Try.f5.params.toList ds).all (· ≤ reachBytes) = true := hz
    have hval' : ∀ (j : Nat) t v, Try.f5.params[j]? = some t → args.toArray[j]? = some v → Value.okWide Try.prog W .any base t v := hval
    rw [Try.params5] at hA' hval' hz'
    obtain ⟨v0, vs0, d0, ds0, p0, q0, rfl, rfl, rfl, h0, r0⟩ := trodAll_cons hA'
    obtain ⟨v1, vs1, d1, ds1, p1, q1, rfl, rfl, rfl, h1, r1⟩ := trodAll_cons r0
    obtain ⟨rfl, rfl, rfl⟩ := trodAll_nil r1
    simp only [DataW.weightsEach, List.all_append, Bool.and_eq_true] at hz'
    obtain ⟨a0, rfl, k0⟩ := arg_I Try.underlying3 H enc W base v0 d0 p0 (hval' 0 _ v0 rfl rfl) h0 (hz'.1)
    obtain ⟨a1, rfl, k1⟩ := arg_S Try.underlying9 H enc W base v1 d1 p1 (hval' 1 _ v1 rfl rfl) h1 (hz'.2.1)
    exact (hawthornlaw12_StoreSessions.ok a0 a1 true (Go.Proofs.Ytpanhdnglicknaa.Pure.StoreSessions a0 a1 k0 k1)).mono fun _ _ _ _ ⟨v, he, hv⟩ => ⟨v, he, hv.1⟩
theorem over : Rows.storeSessionsRow.holds Try.pinned (OpenSpec.ofChange Rows.storeSessionsSpec) :=
  OpenClaim.holds_of_wide 5 Try.f5 rfl rfl rfl rfl rfl rfl rfl ⟨rfl, rfl, rfl, rfl, rfl⟩ rfl rfl rfl rfl rfl (by kernel_rfl) Try.func5 (by kernel_rfl)
    (of_decide_eq_true (by kernel_rfl)) (by unfold Func.isWrapper; first | (rw [if_pos (by decide +kernel)]; kernel_rfl) | (rw [if_neg (by decide +kernel)]; exact ⟨rfl, rfl⟩))
    (fun os started H enc _ => lifted os started H enc)
theorem proved : Rows.StoreSessionsSaid := over
#print axioms proved
end Go.Proofs.Ytpanhdnglicknaa.lawStoreSessions
namespace Go.Proofs.Ytpanhdnglicknaa
/-- The row, under a short name, for the claim. -/
theorem storeSessions_holds : Rows.StoreSessionsSaid := lawStoreSessions.proved
end Go.Proofs.Ytpanhdnglicknaa
