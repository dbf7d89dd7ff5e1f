/- The law hawthornlaw12.StoreNone answers true at every input, and its input reads behind the call as before. Conditions: none. -/
import Derived.Test.YtpanhdnglicknaaGreatRows
import Derived.Test.YtpanhdnglicknaaGreatW3
import Derived.Test.YtpanhdnglicknaaGreatPskZ
import Derived.Test.YtpanhdnglicknaaGreatPskP
import Derived.Test.YtpanhdnglicknaaGreatPringA
import Derived.Test.YtpanhdnglicknaaGreatPringB
import Derived.Test.YtpanhdnglicknaaGreatPringC
import Derived.Test.YtpanhdnglicknaaGreatPringD
import Derived.Test.YtpanhdnglicknaaGreatPringE
import Derived.Test.YtpanhdnglicknaaGreatPringF
import Derived.Test.YtpanhdnglicknaaGreatPtinyZ
import Derived.Test.YtpanhdnglicknaaGreatPtinyB
import Derived.Test.YtpanhdnglicknaaGreatPtinyC
import Derived.Test.YtpanhdnglicknaaGreatPtinyY
import Derived.Test.YtpanhdnglicknaaGreatParcA
import Derived.Test.YtpanhdnglicknaaGreatParcB
import Derived.Test.YtpanhdnglicknaaGreatPpolA
import Derived.Test.YtpanhdnglicknaaGreatPstA
import Derived.Test.YtpanhdnglicknaaGreatPstB
import Derived.Test.YtpanhdnglicknaaGreatPstC
import Derived.Test.YtpanhdnglicknaaGreatPstR
import Derived.Test.YtpanhdnglicknaaGreatPstN
set_option linter.unusedVariables false
set_option linter.unusedSectionVars false
set_option linter.unusedSimpArgs false
set_option maxRecDepth 100000
set_option maxHeartbeats 8000000
namespace Go.Proofs.YtpanhdnglicknaaGreat.lawStoreNone
open Go Go.Proofs.YtpanhdnglicknaaGreat.Hw Go.Proofs.YtpanhdnglicknaaGreat Go.ChangeShapes Go.WideShapes Go.RowKit
def api_Config.wf (x : api_Config) : Prop := iok x.Policy ∧ iok x.Entries ∧ iok x.Bytes ∧ True ∧ True
theorem api_Config.opn24 : Opn Tryz.prog 24 (rE api_Config.c fun _ x => api_Config.wf x) :=
  (opn_struct Tryz.underlying24 rfl (by kernel_rfl) (opnF_cons (n := 1) rfl (by kernel_rfl) (opn_I Tryz.underlying3) (opnF_cons (n := 1) rfl (by kernel_rfl) (opn_I Tryz.underlying3) (opnF_cons (n := 1) rfl (by kernel_rfl) (opn_I Tryz.underlying3) (opnF_cons (n := 1) rfl (by kernel_rfl) (opn_W Tryz.underlying22) opnF_nil))))).mono (fun x => ⟨x.1, x.2.1, x.2.2.1, x.2.2.2.1⟩) (by intro a; rfl) (by intro R a h; exact h)
def api_Op.wf (x : api_Op) : Prop := iok x.Kind ∧ sok x.Key ∧ sok x.Value ∧ True ∧ True ∧ True
theorem api_Op.opn27 : Opn Tryz.prog 27 (rE api_Op.c fun _ x => api_Op.wf x) :=
  (opn_struct Tryz.underlying27 rfl (by kernel_rfl) (opnF_cons (n := 1) rfl (by kernel_rfl) (opn_I Tryz.underlying3) (opnF_cons (n := 1) rfl (by kernel_rfl) (opn_S Tryz.underlying9) (opnF_cons (n := 1) rfl (by kernel_rfl) (opn_S Tryz.underlying9) (opnF_cons (n := 1) rfl (by kernel_rfl) (opn_W Tryz.underlying22) (opnF_cons (n := 1) rfl (by kernel_rfl) (opn_W Tryz.underlying22) opnF_nil)))))).mono (fun x => ⟨x.1, x.2.1, x.2.2.1, x.2.2.2.1, x.2.2.2.2.1⟩) (by intro a; rfl) (by intro R a h; exact h)
def hawthornlaw12_Act.wf (x : hawthornlaw12_Act) : Prop := True ∧ True ∧ True ∧ api_Op.wf x.Op ∧ iok x.Skip ∧ True
theorem hawthornlaw12_Act.opn29 : Opn Tryz.prog 29 (rE hawthornlaw12_Act.c fun _ x => hawthornlaw12_Act.wf x) :=
  (opn_struct Tryz.underlying29 rfl (by kernel_rfl) (opnF_cons (n := 1) rfl (by kernel_rfl) (opn_W Tryz.underlying22) (opnF_cons (n := 1) rfl (by kernel_rfl) (opn_W Tryz.underlying22) (opnF_cons (n := 1) rfl (by kernel_rfl) (opn_W Tryz.underlying22) (opnF_cons (n := 5) rfl (by kernel_rfl) api_Op.opn27 (opnF_cons (n := 1) rfl (by kernel_rfl) (opn_I Tryz.underlying3) opnF_nil)))))).mono (fun x => ⟨x.1, x.2.1, x.2.2.1, x.2.2.2.1, x.2.2.2.2.1⟩) (by intro a; rfl) (by intro R a h; exact h)

theorem own : ownKnob Tryz.prog.godebug = none := by kernel_rfl
theorem laidOut : laidOutB Tryz.prog = true := by kernel_rfl
set_option maxRecDepth 100000 in
theorem lifted (os : Os) (started : os.Started) (H : Type) (enc : TypeId × Value → H) :
    ReturnsInHanded {} Tryz.checked os 8 .any (Rows.storeNoneSpec.pre6 enc Tryz.prog Tryz.f8 Rows.storeNoneRow.domain false) (Rows.storeNoneSpec.post enc Tryz.prog Tryz.f8 false true false false) := by
  refine law_lift (C := Tryz.checked) own started (by kernel_rfl) Tryz.func8 (ChangeSpec.witness6 (enc := enc) (C := Tryz.checked) false ⟨#[], #[.agg #[.int .i64 0, .int .i64 0, .int .i64 0, .int .u64 0], .agg #[.int .u64 0, .int .u64 0, .int .u64 0, .int .i64 0, .string ByteArray.empty, .string ByteArray.empty, .int .u64 0, .int .u64 0, .int .i64 0]], []⟩ 8 (by kernel_rfl) (by kernel_rfl) (by kernel_rfl) (by kernel_rfl))
    laidOut (by kernel_rfl) rfl (fun ds h => ?_) rfl Tryz.underlying4 (fun W base args ds p hval hA hz => ?_)
  · match ds, h with
    | [d0, d1], _ => rfl
  · have hA' : DataW.TrodAll enc Tryz.prog W 0 (fun _ => true) true Tryz.f8.params.toList args ds p := hA
    have hz' : (DataW.weightsEach Tryz.prog Tryz.f8.params.toList ds).all (· ≤ reachBytes) = true := hz
    have hval' : ∀ (j : Nat) t v, Tryz.f8.params[j]? = some t → args.toArray[j]? = some v → Value.okWide Tryz.prog W .any base t v := hval
    rw [Tryz.params8] at hA' hval' hz'
    obtain ⟨v0, vs0, d0, ds0, p0, q0, rfl, rfl, rfl, h0, r0⟩ := trodAll_cons hA'
    obtain ⟨v1, vs1, d1, ds1, p1, q1, rfl, rfl, rfl, h1, r1⟩ := trodAll_cons r0
    obtain ⟨rfl, rfl, rfl⟩ := trodAll_nil r1
    simp only [DataW.weightsEach, List.all_append, Bool.and_eq_true] at hz'
    obtain ⟨a0, rfl, k0⟩ := arg_struct Tryz.underlying24 api_Config.opn24 H enc W base v0 d0 p0 (hval' 0 _ v0 rfl rfl) h0 (hz'.1)
    obtain ⟨a1, rfl, k1⟩ := arg_struct Tryz.underlying29 hawthornlaw12_Act.opn29 H enc W base v1 d1 p1 (hval' 1 _ v1 rfl rfl) h1 (hz'.2.1)
    exact (hawthornlaw12_StoreNone.ok a0 a1 true (Go.Proofs.YtpanhdnglicknaaGreat.Pure.StoreNone a0 a1 k0 k1)).mono fun _ _ _ _ ⟨v, he, hv⟩ => ⟨v, he, hv.1⟩
theorem over : Rows.storeNoneRow.holds Tryz.pinned (OpenSpec.ofChange Rows.storeNoneSpec) :=
  OpenClaim.holds_of_wide 8 Tryz.f8 rfl rfl rfl rfl rfl rfl rfl ⟨rfl, rfl, rfl, rfl, rfl⟩ rfl rfl rfl rfl rfl (by kernel_rfl) Tryz.func8 (by kernel_rfl)
    (of_decide_eq_true (by kernel_rfl)) (by unfold Func.isWrapper; first | (rw [if_pos (by decide +kernel)]; kernel_rfl) | (rw [if_neg (by decide +kernel)]; exact ⟨rfl, rfl⟩))
    (fun os started H enc _ => lifted os started H enc)
theorem proved : Rows.StoreNoneSaid := over
#print axioms proved
end Go.Proofs.YtpanhdnglicknaaGreat.lawStoreNone
namespace Go.Proofs.YtpanhdnglicknaaGreat
/-- The row, under a short name, for the claim. -/
theorem storeNone_holds : Rows.StoreNoneSaid := lawStoreNone.proved
end Go.Proofs.YtpanhdnglicknaaGreat
