/- The law hawthornlaw09.PolicyMirrors answers true at every input, and its input reads behind the call as before. Conditions: none. -/
import Derived.Test.YthngfieikhillaaGreatRows
import Derived.Test.YthngfieikhillaaGreatW4
import Derived.Test.YthngfieikhillaaGreatQ0
import Derived.Test.YthngfieikhillaaGreatQ1
import Derived.Test.YthngfieikhillaaGreatQ2
import Derived.Test.YthngfieikhillaaGreatQ3
set_option linter.unusedVariables false
set_option linter.unusedSectionVars false
set_option linter.unusedSimpArgs false
set_option maxRecDepth 100000
set_option maxHeartbeats 8000000
namespace Go.Proofs.YthngfieikhillaaGreat.lawPolicyMirrors
open Go Go.Proofs.YthngfieikhillaaGreat.Hw Go.Proofs.YthngfieikhillaaGreat Go.ChangeShapes Go.WideShapes Go.RowKit
def AC.wf (x : AC) : Prop := iok x.Kind ∧ sok x.Key ∧ True
theorem AC.opn46 : Opn Tryz.prog 46 (rE AC.c fun _ x => AC.wf x) :=
 (opn_struct Tryz.underlying46 rfl (by kernel_rfl) (opnF_cons (n := 1) rfl (by kernel_rfl) (opn_I Tryz.underlying3) (opnF_cons (n := 1) rfl (by kernel_rfl) (opn_S Tryz.underlying9) opnF_nil))).mono (fun x => ⟨x.1, x.2.1⟩) (by intro a; rfl) (by intro R a h; exact h)
theorem own : ownKnob Tryz.prog.godebug = none := by kernel_rfl
theorem laidOut : laidOutB Tryz.prog = true := by kernel_rfl
set_option maxRecDepth 100000 in
theorem lifted (os : Os) (started : os.Started) (H : Type) (enc : TypeId × Value → H) :
  ReturnsInHanded {} Tryz.checked os 4 .any (Rows.policyMirrorsSpec.pre6 enc Tryz.prog Tryz.f4 Rows.policyMirrorsRow.domain false) (Rows.policyMirrorsSpec.post enc Tryz.prog Tryz.f4 false true false false) := by
 refine law_lift (C := Tryz.checked) own started (by kernel_rfl) Tryz.func4 (ChangeSpec.witness6 (enc := enc) (C := Tryz.checked) false ⟨#[], #[.int .i64 0, .slice none 0 0, .slice none 0 0], []⟩ 8 (by kernel_rfl) (by kernel_rfl) (by kernel_rfl) (by kernel_rfl))
  laidOut (by kernel_rfl) rfl (fun ds h => ?_) rfl Tryz.underlying4 (fun W base args ds p hval hA hz => ?_)
 ·match ds, h with
  | [d0, d1, d2], _ => rfl
 ·have hA' : DataW.TrodAll enc Tryz.prog W 0 (fun _ => true) true Tryz.f4.params.toList args ds p := hA
  have hz' : (DataW.weightsEach Tryz.prog Tryz.f4.params.toList ds).all (· ≤ reachBytes) = true := hz
  have hval' : ∀ (j : Nat) t v, Tryz.f4.params[j]? = some t → args.toArray[j]? = some v → Value.okWide Tryz.prog W .any base t v := hval
  rw [Tryz.params4] at hA' hval' hz'
  obtain ⟨v0, vs0, d0, ds0, p0, q0, rfl, rfl, rfl, h0, r0⟩ := trodAll_cons hA'
  obtain ⟨v1, vs1, d1, ds1, p1, q1, rfl, rfl, rfl, h1, r1⟩ := trodAll_cons r0
  obtain ⟨v2, vs2, d2, ds2, p2, q2, rfl, rfl, rfl, h2, r2⟩ := trodAll_cons r1
  obtain ⟨rfl, rfl, rfl⟩ := trodAll_nil r2
  simp only [DataW.weightsEach, List.all_append, Bool.and_eq_true] at hz'
  obtain ⟨a0, rfl, k0⟩ := arg_I Tryz.underlying3 H enc W base v0 d0 p0 (hval' 0 _ v0 rfl rfl) h0 (hz'.1)
  obtain ⟨a1, s1, k1, y1⟩ := arg_slice Tryz.underlying22 (opn_slice (n := 2) (bytes := 24) Tryz.underlying22 (by kernel_rfl) (by decide) (by kernel_rfl) AC.opn46) H enc W base v1 d1 p1 (hval' 1 _ v1 rfl rfl) h1 (hz'.2.1)
  obtain ⟨a2, s2, k2, y2⟩ := arg_slice Tryz.underlying22 (opn_slice (n := 2) (bytes := 24) Tryz.underlying22 (by kernel_rfl) (by decide) (by kernel_rfl) AC.opn46) H enc W base v2 d2 p2 (hval' 2 _ v2 rfl rfl) h2 (hz'.2.2.1)
  exact (BZ.ok a0 v1 a1 s1 v2 a2 s2 true (Go.Proofs.YthngfieikhillaaGreat.Pure.PolicyMirrors a0 a1 a2 k0 k1 y1 k2 y2)).mono fun _ _ _ _ ⟨v, he, hv⟩ => ⟨v, he, hv.1⟩
theorem over : Rows.policyMirrorsRow.holds Tryz.pinned (OpenSpec.ofChange Rows.policyMirrorsSpec) :=
 OpenClaim.holds_of_wide 4 Tryz.f4 rfl rfl rfl rfl rfl rfl rfl ⟨rfl, rfl, rfl, rfl, rfl⟩ rfl rfl rfl rfl rfl (by kernel_rfl) Tryz.func4 (by kernel_rfl)
  (of_decide_eq_true (by kernel_rfl)) (by unfold Func.isWrapper; first | (rw [if_pos (by decide +kernel)]; kernel_rfl) | (rw [if_neg (by decide +kernel)]; exact ⟨rfl, rfl⟩))
  (fun os started H enc _ => lifted os started H enc)
theorem proved : Rows.PolicyMirrorsSaid := over
#print axioms proved
end Go.Proofs.YthngfieikhillaaGreat.lawPolicyMirrors
namespace Go.Proofs.YthngfieikhillaaGreat
theorem policyMirrors_holds : Rows.PolicyMirrorsSaid := lawPolicyMirrors.proved
end Go.Proofs.YthngfieikhillaaGreat
