/- The law hawthornlaw10.OpRecords answers true at every input, and its input reads behind the call as before. Conditions: none. -/
import Derived.Test.YtgnpffbgfmeinaaRows
import Derived.Test.YtgnpffbgfmeinaaW1
import Derived.Test.YtgnpffbgfmeinaaPwireA
import Derived.Test.YtgnpffbgfmeinaaPwireB
import Derived.Test.YtgnpffbgfmeinaaPwireC
import Derived.Test.YtgnpffbgfmeinaaPwireD
import Derived.Test.YtgnpffbgfmeinaaPwireE
import Derived.Test.YtgnpffbgfmeinaaPwireF
import Derived.Test.YtgnpffbgfmeinaaPwireG
import Derived.Test.YtgnpffbgfmeinaaPwireH
import Derived.Test.YtgnpffbgfmeinaaPwireI
import Derived.Test.YtgnpffbgfmeinaaPwireJ
import Derived.Test.YtgnpffbgfmeinaaPwireK
import Derived.Test.YtgnpffbgfmeinaaPopA
import Derived.Test.YtgnpffbgfmeinaaPopB
set_option linter.unusedVariables false
set_option linter.unusedSimpArgs false
set_option maxRecDepth 100000
set_option maxHeartbeats 8000000
namespace Go.Proofs.Ytgnpffbgfmeinaa.lawOpRecords
open Go Go.Proofs.Ytgnpffbgfmeinaa.Hw Go.Proofs.Ytgnpffbgfmeinaa Go.ChangeShapes Go.WideShapes Go.RowKit
def api_Op.wf (x : api_Op) : Prop := iok x.Kind ∧ sok x.Key ∧ sok x.Value ∧ True ∧ True ∧ True
theorem api_Op.opn72 : Opn Try.prog 72 (rE api_Op.c fun _ x => api_Op.wf x) :=
  (opn_struct Try.underlying72 rfl (by kernel_rfl) (opnF_cons (n := 1) rfl (by kernel_rfl) (opn_I Try.underlying3) (opnF_cons (n := 1) rfl (by kernel_rfl) (opn_S Try.underlying9) (opnF_cons (n := 1) rfl (by kernel_rfl) (opn_S Try.underlying9) (opnF_cons (n := 1) rfl (by kernel_rfl) (opn_W Try.underlying22) (opnF_cons (n := 1) rfl (by kernel_rfl) (opn_W Try.underlying22) opnF_nil)))))).mono (fun x => ⟨x.1, x.2.1, x.2.2.1, x.2.2.2.1, x.2.2.2.2.1⟩) (by intro a; rfl) (by intro R a h; exact h)
def api_Record.wf (x : api_Record) : Prop := True ∧ True ∧ True ∧ True ∧ api_Op.wf x.Op ∧ True
theorem api_Record.opn78 : Opn Try.prog 78 (rE api_Record.c fun _ x => api_Record.wf x) :=
  (opn_struct Try.underlying78 rfl (by kernel_rfl) (opnF_cons (n := 1) rfl (by kernel_rfl) (opn_W Try.underlying22) (opnF_cons (n := 1) rfl (by kernel_rfl) (opn_W Try.underlying22) (opnF_cons (n := 1) rfl (by kernel_rfl) (opn_W Try.underlying22) (opnF_cons (n := 1) rfl (by kernel_rfl) (opn_W Try.underlying22) (opnF_cons (n := 5) rfl (by kernel_rfl) api_Op.opn72 opnF_nil)))))).mono (fun x => ⟨x.1, x.2.1, x.2.2.1, x.2.2.2.1, x.2.2.2.2.1⟩) (by intro a; rfl) (by intro R a h; exact h)
def api_Reply.wf (x : api_Reply) : Prop := iok x.E ∧ sok x.Value ∧ True ∧ True
theorem api_Reply.opn80 : Opn Try.prog 80 (rE api_Reply.c fun _ x => api_Reply.wf x) :=
  (opn_struct Try.underlying80 rfl (by kernel_rfl) (opnF_cons (n := 1) rfl (by kernel_rfl) (opn_I Try.underlying23) (opnF_cons (n := 1) rfl (by kernel_rfl) (opn_S Try.underlying9) (opnF_cons (n := 1) rfl (by kernel_rfl) (opn_W Try.underlying22) opnF_nil)))).mono (fun x => ⟨x.1, x.2.1, x.2.2.1⟩) (by intro a; rfl) (by intro R a h; exact h)

theorem own : ownKnob Try.prog.godebug = none := by kernel_rfl
theorem laidOut : laidOutB Try.prog = true := by kernel_rfl
set_option maxRecDepth 100000 in
theorem lifted (os : Os) (started : os.Started) (H : Type) (enc : TypeId × Value → H) :
    ReturnsInHanded {} Try.checked os 13 .any (Rows.opRecordsSpec.pre6 enc Try.prog Try.f13 Rows.opRecordsRow.domain false) (Rows.opRecordsSpec.post enc Try.prog Try.f13 false true false false) := by
  refine law_lift (C := Try.checked) own started (by kernel_rfl) Try.func13 (ChangeSpec.witness6 (enc := enc) (C := Try.checked) false ⟨#[], #[.agg #[.int .u64 0, .int .u64 0, .int .u64 0, .int .u64 0, .int .i64 0, .string ByteArray.empty, .string ByteArray.empty, .int .u64 0, .int .u64 0], .agg #[.int .i64 0, .string ByteArray.empty, .int .u64 0]], []⟩ 8 (by kernel_rfl) (by kernel_rfl) (by kernel_rfl) (by kernel_rfl))
    laidOut (by kernel_rfl) rfl (fun ds h => ?_) rfl Try.underlying4 (fun W base args ds p hval hA hz => ?_)
  · match ds, h with
    | [d0, d1], _ => rfl
  · have hA' : DataW.TrodAll enc Try.prog W 0 (fun _ => true) true Try.f13.params.toList args ds p := hA
    have hz' : (DataW.weightsEach Try.prog Try.f13.params.toList ds).all (· ≤ reachBytes) = true := hz
    have hval' : ∀ (j : Nat) t v, Try.f13.params[j]? = some t → args.toArray[j]? = some v → Value.okWide Try.prog W .any base t v := hval
    rw [Try.params13] at hA' hval' hz'
    obtain ⟨v0, vs0, d0, ds0, p0, q0, rfl, rfl, rfl, h0, r0⟩ := trodAll_cons hA'
    obtain ⟨v1, vs1, d1, ds1, p1, q1, rfl, rfl, rfl, h1, r1⟩ := trodAll_cons r0
    obtain ⟨rfl, rfl, rfl⟩ := trodAll_nil r1
    simp only [DataW.weightsEach, List.all_append, Bool.and_eq_true] at hz'
    obtain ⟨a0, rfl, k0⟩ := arg_struct Try.underlying78 api_Record.opn78 H enc W base v0 d0 p0 (hval' 0 _ v0 rfl rfl) h0 (hz'.1)
    obtain ⟨a1, rfl, k1⟩ := arg_struct Try.underlying80 api_Reply.opn80 H enc W base v1 d1 p1 (hval' 1 _ v1 rfl rfl) h1 (hz'.2.1)
    exact hawthornlaw10_OpRecords.ok a0 a1 true (Go.Proofs.Ytgnpffbgfmeinaa.Pure.OpRecords a0 a1 k0 k1)
theorem over : Rows.opRecordsRow.holds Try.pinned (OpenSpec.ofChange Rows.opRecordsSpec) :=
  OpenClaim.holds_of_wide 13 Try.f13 rfl rfl rfl rfl rfl rfl rfl ⟨rfl, rfl, rfl, rfl, rfl⟩ rfl rfl rfl rfl rfl (by kernel_rfl) Try.func13 (by kernel_rfl)
    (of_decide_eq_true (by kernel_rfl)) (by unfold Func.isWrapper; first | (rw [if_pos (by decide +kernel)]; kernel_rfl) | (rw [if_neg (by decide +kernel)]; exact ⟨rfl, rfl⟩))
    (fun os started H enc _ => lifted os started H enc)
theorem proved : Rows.OpRecordsSaid := over
#print axioms proved
end Go.Proofs.Ytgnpffbgfmeinaa.lawOpRecords
namespace Go.Proofs.Ytgnpffbgfmeinaa
/-- The row, under a short name, for the claim. -/
theorem opRecords_holds : Rows.OpRecordsSaid := lawOpRecords.proved
end Go.Proofs.Ytgnpffbgfmeinaa
