/- The law hawthornlaw16.CellBallots answers true at every input, and its input reads behind the call as before. Conditions: none. -/
import Derived.Test.YtbldbopiofinbaaRows
import Derived.Test.YtbldbopiofinbaaW0
import Derived.Test.YtbldbopiofinbaaPcell
set_option linter.unusedVariables false
set_option linter.unusedSimpArgs false
set_option maxRecDepth 100000
set_option maxHeartbeats 8000000
namespace Go.Proofs.Ytbldbopiofinbaa.lawCellBallots
open Go Go.Proofs.Ytbldbopiofinbaa.Hw Go.Proofs.Ytbldbopiofinbaa Go.ChangeShapes Go.WideShapes Go.RowKit
def api_View.wf (x : api_View) : Prop := True ∧ iok x.Primary ∧ True ∧ iok x.Backup ∧ True ∧ True ∧ True
theorem api_View.opn25 : Opn Try.prog 25 (rE api_View.c fun _ x => api_View.wf x) :=
  (opn_struct Try.underlying25 rfl (by kernel_rfl) (opnF_cons (n := 1) rfl (by kernel_rfl) (opn_W Try.underlying23) (opnF_cons (n := 1) rfl (by kernel_rfl) (opn_I Try.underlying3) (opnF_cons (n := 1) rfl (by kernel_rfl) (opn_W Try.underlying23) (opnF_cons (n := 1) rfl (by kernel_rfl) (opn_I Try.underlying3) (opnF_cons (n := 1) rfl (by kernel_rfl) (opn_W Try.underlying23) (opnF_cons (n := 1) rfl (by kernel_rfl) (opn_W Try.underlying23) opnF_nil))))))).mono (fun x => ⟨x.1, x.2.1, x.2.2.1, x.2.2.2.1, x.2.2.2.2.1, x.2.2.2.2.2.1⟩) (by intro a; rfl) (by intro R a h; exact h)

theorem own : ownKnob Try.prog.godebug = none := by kernel_rfl
theorem laidOut : laidOutB Try.prog = true := by kernel_rfl
set_option maxRecDepth 100000 in
theorem lifted (os : Os) (started : os.Started) (H : Type) (enc : TypeId × Value → H) :
    ReturnsInHanded {} Try.checked os 3 .any (Rows.cellBallotsSpec.pre6 enc Try.prog Try.f3 Rows.cellBallotsRow.domain false) (Rows.cellBallotsSpec.post enc Try.prog Try.f3 false true false false) := by
  refine law_lift (C := Try.checked) own started (by kernel_rfl) Try.func3 (ChangeSpec.witness6 (enc := enc) (C := Try.checked) false ⟨#[], #[.slice none 0 0, .agg #[.int .u64 0, .int .i64 0, .int .u64 0, .int .i64 0, .int .u64 0, .int .u64 0]], []⟩ 8 (by kernel_rfl) (by kernel_rfl) (by kernel_rfl) (by kernel_rfl))
    laidOut (by kernel_rfl) rfl (fun ds h => ?_) rfl Try.underlying4 (fun W base args ds p hval hA hz => ?_)
  · match ds, h with
    | [d0, d1], _ => rfl
  · have hA' : DataW.TrodAll enc Try.prog W 0 (fun _ => true) true Try.f3.params.toList args ds p := hA
    have hz' : (DataW.weightsEach Try.prog Try.f3.params.toList ds).all (· ≤ reachBytes) = true := hz
    have hval' : ∀ (j : Nat) t v, Try.f3.params[j]? = some t → args.toArray[j]? = some v → Value.okWide Try.prog W .any base t v := hval
    rw [Try.params3] at hA' hval' hz'
    obtain ⟨v0, vs0, d0, ds0, p0, q0, rfl, rfl, rfl, h0, r0⟩ := trodAll_cons hA'
    obtain ⟨v1, vs1, d1, ds1, p1, q1, rfl, rfl, rfl, h1, r1⟩ := trodAll_cons r0
    obtain ⟨rfl, rfl, rfl⟩ := trodAll_nil r1
    simp only [DataW.weightsEach, List.all_append, Bool.and_eq_true] at hz'
    obtain ⟨a0, s0, k0, y0⟩ := arg_slice Try.underlying22 (opn_slice (n := 1) Try.underlying22 (by kernel_rfl) (by decide) (by kernel_rfl) (opn_W Try.underlying23)) H enc W base v0 d0 p0 (hval' 0 _ v0 rfl rfl) h0 (hz'.1)
    obtain ⟨a1, rfl, k1⟩ := arg_struct Try.underlying25 api_View.opn25 H enc W base v1 d1 p1 (hval' 1 _ v1 rfl rfl) h1 (hz'.2.1)
    exact hawthornlaw16_CellBallots.ok v0 a0 s0 a1 true (Go.Proofs.Ytbldbopiofinbaa.Pure.CellBallots a0 a1 k0 y0 k1)
theorem over : Rows.cellBallotsRow.holds Try.pinned (OpenSpec.ofChange Rows.cellBallotsSpec) :=
  OpenClaim.holds_of_wide 3 Try.f3 rfl rfl rfl rfl rfl rfl rfl ⟨rfl, rfl, rfl, rfl, rfl⟩ rfl rfl rfl rfl rfl (by kernel_rfl) Try.func3 (by kernel_rfl)
    (of_decide_eq_true (by kernel_rfl)) (by unfold Func.isWrapper; first | (rw [if_pos (by decide +kernel)]; kernel_rfl) | (rw [if_neg (by decide +kernel)]; exact ⟨rfl, rfl⟩))
    (fun os started H enc _ => lifted os started H enc)
theorem proved : Rows.CellBallotsSaid := over
#print axioms proved
end Go.Proofs.Ytbldbopiofinbaa.lawCellBallots
namespace Go.Proofs.Ytbldbopiofinbaa
/-- The row, under a short name, for the claim. -/
theorem cellBallots_holds : Rows.CellBallotsSaid := lawCellBallots.proved
end Go.Proofs.Ytbldbopiofinbaa
