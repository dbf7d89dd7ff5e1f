/- The law hawthornlaw21.ClientPlays answers true at every input, and its input reads behind the call as before. Conditions: none. -/
import Derived.Test.YthngfieikhillaaRows
import Derived.Test.YthngfieikhillaaW9
import Derived.Test.YthngfieikhillaaPwireS
import Derived.Test.YthngfieikhillaaPclA
import Derived.Test.YthngfieikhillaaPclE
import Derived.Test.YthngfieikhillaaPclT
import Derived.Test.YthngfieikhillaaPclQ
import Derived.Test.YthngfieikhillaaPclP
import Derived.Test.YthngfieikhillaaPclR
set_option linter.unusedVariables false
set_option linter.unusedSectionVars false
set_option linter.unusedSimpArgs false
set_option maxRecDepth 100000
set_option maxHeartbeats 8000000
namespace Go.Proofs.Ythngfieikhillaa.lawClientPlays
open Go Go.Proofs.Ythngfieikhillaa.Hw Go.Proofs.Ythngfieikhillaa Go.ChangeShapes Go.WideShapes Go.RowKit
def hawthornlaw21_Act.wf (x : hawthornlaw21_Act) : Prop := iok x.Kind ∧ iok x.From ∧ iok x.Off ∧ True
theorem hawthornlaw21_Act.opn53 : Opn Try.prog 53 (rE hawthornlaw21_Act.c fun _ x => hawthornlaw21_Act.wf x) :=
  (opn_struct Try.underlying53 rfl (by kernel_rfl) (opnF_cons (n := 1) rfl (by kernel_rfl) (opn_I Try.underlying3) (opnF_cons (n := 1) rfl (by kernel_rfl) (opn_I Try.underlying3) (opnF_cons (n := 1) rfl (by kernel_rfl) (opn_I Try.underlying3) opnF_nil)))).mono (fun x => ⟨x.1, x.2.1, x.2.2.1⟩) (by intro a; rfl) (by intro R a h; exact h)

theorem own : ownKnob Try.prog.godebug = none := by kernel_rfl
theorem laidOut : laidOutB Try.prog = true := by kernel_rfl
set_option maxRecDepth 100000 in
theorem lifted (os : Os) (started : os.Started) (H : Type) (enc : TypeId × Value → H) :
    ReturnsInHanded {} Try.checked os 4 .any (Rows.clientPlaysSpec.pre6 enc Try.prog Try.f4 Rows.clientPlaysRow.domain false) (Rows.clientPlaysSpec.post enc Try.prog Try.f4 false true false false) := by
  refine law_lift (C := Try.checked) own started (by kernel_rfl) Try.func4 (ChangeSpec.witness6 (enc := enc) (C := Try.checked) false ⟨#[], #[.int .i64 0, .slice none 0 0], []⟩ 8 (by kernel_rfl) (by kernel_rfl) (by kernel_rfl) (by kernel_rfl))
    laidOut (by kernel_rfl) rfl (fun ds h => ?_) rfl Try.underlying4 (fun W base args ds p hval hA hz => ?_)
  · match ds, h with
    | [d0, d1], _ => rfl
  · have hA' : DataW.TrodAll enc Try.prog W 0 (fun _ => true) true Try.f4.params.toList args ds p := hA
    have hz' : (DataW.weightsEach Try.prog Try.f4.params.toList ds).all (· ≤ reachBytes) = true := hz
    have hval' : ∀ (j : Nat) t v, Try.f4.params[j]? = some t → args.toArray[j]? = some v → Value.okWide Try.prog W .any base t v := hval
    rw [Try.params4] at hA' hval' hz'
    obtain ⟨v0, vs0, d0, ds0, p0, q0, rfl, rfl, rfl, h0, r0⟩ := trodAll_cons hA'
    obtain ⟨v1, vs1, d1, ds1, p1, q1, rfl, rfl, rfl, h1, r1⟩ := trodAll_cons r0
    obtain ⟨rfl, rfl, rfl⟩ := trodAll_nil r1
    simp only [DataW.weightsEach, List.all_append, Bool.and_eq_true] at hz'
    obtain ⟨a0, rfl, k0⟩ := arg_I Try.underlying3 H enc W base v0 d0 p0 (hval' 0 _ v0 rfl rfl) h0 (hz'.1)
    obtain ⟨a1, s1, k1, y1⟩ := arg_slice Try.underlying47 (opn_slice (n := 3) (bytes := 24) Try.underlying47 (by kernel_rfl) (by decide) (by kernel_rfl) hawthornlaw21_Act.opn53) H enc W base v1 d1 p1 (hval' 1 _ v1 rfl rfl) h1 (hz'.2.1)
    exact (hawthornlaw21_ClientPlays.ok a0 v1 a1 s1 true (Go.Proofs.Ythngfieikhillaa.Pure.ClientPlays a0 a1 k0 k1 y1)).mono fun _ _ _ _ ⟨v, he, hv⟩ => ⟨v, he, hv.1⟩
theorem over : Rows.clientPlaysRow.holds Try.pinned (OpenSpec.ofChange Rows.clientPlaysSpec) :=
  OpenClaim.holds_of_wide 4 Try.f4 rfl rfl rfl rfl rfl rfl rfl ⟨rfl, rfl, rfl, rfl, rfl⟩ rfl rfl rfl rfl rfl (by kernel_rfl) Try.func4 (by kernel_rfl)
    (of_decide_eq_true (by kernel_rfl)) (by unfold Func.isWrapper; first | (rw [if_pos (by decide +kernel)]; kernel_rfl) | (rw [if_neg (by decide +kernel)]; exact ⟨rfl, rfl⟩))
    (fun os started H enc _ => lifted os started H enc)
theorem proved : Rows.ClientPlaysSaid := over
#print axioms proved
end Go.Proofs.Ythngfieikhillaa.lawClientPlays
namespace Go.Proofs.Ythngfieikhillaa
/-- The row, under a short name, for the claim. -/
theorem clientPlays_holds : Rows.ClientPlaysSaid := lawClientPlays.proved
end Go.Proofs.Ythngfieikhillaa
