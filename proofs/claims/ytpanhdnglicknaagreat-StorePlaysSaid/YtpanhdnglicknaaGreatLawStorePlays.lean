/- The law hawthornlaw12.StorePlays answers true at every input, and its input reads behind the call as before. Conditions: none. -/
import Derived.Test.YtpanhdnglicknaaGreatRows
import Derived.Test.YtpanhdnglicknaaGreatW5
import Derived.Test.YtpanhdnglicknaaGreatQ0
import Derived.Test.YtpanhdnglicknaaGreatQ1
import Derived.Test.YtpanhdnglicknaaGreatQ2
import Derived.Test.YtpanhdnglicknaaGreatQ3
import Derived.Test.YtpanhdnglicknaaGreatQ4
import Derived.Test.YtpanhdnglicknaaGreatQ5
set_option linter.unusedVariables false
set_option linter.unusedSectionVars false
set_option linter.unusedSimpArgs false
set_option maxRecDepth 100000
set_option maxHeartbeats 4000000
namespace Go.Proofs.YtpanhdnglicknaaGreat.lawStorePlays
open Go Go.Proofs.YtpanhdnglicknaaGreat.Hw Go.Proofs.YtpanhdnglicknaaGreat Go.ChangeShapes Go.WideShapes Go.RowKit
def Au.wf (x : Au) : Prop := iok x.Policy ∧ iok x.Entries ∧ iok x.Bytes ∧ True ∧ True
theorem Au.opn24 : Opn Tryz.prog 24 (rE Au.c fun _ x => Au.wf x) :=
 (opn_struct Tryz.underlying24 rfl (by kernel_rfl) (opnF_cons (n := 1) rfl (by kernel_rfl) (opn_I Tryz.underlying3) (opnF_cons (n := 1) rfl (by kernel_rfl) (opn_I Tryz.underlying3) (opnF_cons (n := 1) rfl (by kernel_rfl) (opn_I Tryz.underlying3) (opnF_cons (n := 1) rfl (by kernel_rfl) (opn_W Tryz.underlying22) opnF_nil))))).mono (fun x => ⟨x.1, x.2.1, x.2.2.1, x.2.2.2.1⟩) (by intro a; rfl) (by intro R a h; exact h)
def AI.wf (x : AI) : Prop := iok x.Kind ∧ sok x.Key ∧ sok x.Value ∧ True ∧ True ∧ True
theorem AI.opn27 : Opn Tryz.prog 27 (rE AI.c fun _ x => AI.wf x) :=
 (opn_struct Tryz.underlying27 rfl (by kernel_rfl) (opnF_cons (n := 1) rfl (by kernel_rfl) (opn_I Tryz.underlying3) (opnF_cons (n := 1) rfl (by kernel_rfl) (opn_S Tryz.underlying9) (opnF_cons (n := 1) rfl (by kernel_rfl) (opn_S Tryz.underlying9) (opnF_cons (n := 1) rfl (by kernel_rfl) (opn_W Tryz.underlying22) (opnF_cons (n := 1) rfl (by kernel_rfl) (opn_W Tryz.underlying22) opnF_nil)))))).mono (fun x => ⟨x.1, x.2.1, x.2.2.1, x.2.2.2.1, x.2.2.2.2.1⟩) (by intro a; rfl) (by intro R a h; exact h)
def AM.wf (x : AM) : Prop := True ∧ True ∧ True ∧ AI.wf x.Op ∧ iok x.Skip ∧ True
theorem AM.opn29 : Opn Tryz.prog 29 (rE AM.c fun _ x => AM.wf x) :=
 (opn_struct Tryz.underlying29 rfl (by kernel_rfl) (opnF_cons (n := 1) rfl (by kernel_rfl) (opn_W Tryz.underlying22) (opnF_cons (n := 1) rfl (by kernel_rfl) (opn_W Tryz.underlying22) (opnF_cons (n := 1) rfl (by kernel_rfl) (opn_W Tryz.underlying22) (opnF_cons (n := 5) rfl (by kernel_rfl) AI.opn27 (opnF_cons (n := 1) rfl (by kernel_rfl) (opn_I Tryz.underlying3) opnF_nil)))))).mono (fun x => ⟨x.1, x.2.1, x.2.2.1, x.2.2.2.1, x.2.2.2.2.1⟩) (by intro a; rfl) (by intro R a h; exact h)
theorem own : ownKnob Tryz.prog.godebug = none := by kernel_rfl
theorem laidOut : laidOutB Tryz.prog = true := by kernel_rfl
set_option maxRecDepth 100000 in
theorem lifted (os : Os) (started : os.Started) (H : Type) (enc : TypeId × Value → H) :
  ReturnsInHanded {} Tryz.checked os 7 .any (Rows.storePlaysSpec.pre6 enc Tryz.prog Tryz.f7 Rows.storePlaysRow.domain false) (Rows.storePlaysSpec.post enc Tryz.prog Tryz.f7 false true false false) := by
 refine law_lift (C := Tryz.checked) own started (by kernel_rfl) Tryz.func7 (ChangeSpec.witness6 (enc := enc) (C := Tryz.checked) false ⟨#[], #[.agg #[.int .i64 0, .int .i64 0, .int .i64 0, .int .u64 0], .slice none 0 0], []⟩ 8 (by kernel_rfl) (by kernel_rfl) (by kernel_rfl) (by kernel_rfl))
  laidOut (by kernel_rfl) rfl (fun ds h => ?_) rfl Tryz.underlying4 (fun W base args ds p hval hA hz => ?_)
 ·match ds, h with
  | [d0, d1], _ => rfl
 ·have hA' : DataW.TrodAll enc Tryz.prog W 0 (fun _ => true) true Tryz.f7.params.toList args ds p := hA
  have hz' : (DataW.weightsEach Tryz.prog Tryz.f7.params.toList ds).all (· ≤ reachBytes) = true := hz
  have hval' : ∀ (j : Nat) t v, Tryz.f7.params[j]? = some t → args.toArray[j]? = some v → Value.okWide Tryz.prog W .any base t v := hval
  rw [Tryz.params7] at hA' hval' hz'
  obtain ⟨v0, vs0, d0, ds0, p0, q0, rfl, rfl, rfl, h0, r0⟩ := trodAll_cons hA'
  obtain ⟨v1, vs1, d1, ds1, p1, q1, rfl, rfl, rfl, h1, r1⟩ := trodAll_cons r0
  obtain ⟨rfl, rfl, rfl⟩ := trodAll_nil r1
  simp only [DataW.weightsEach, List.all_append, Bool.and_eq_true] at hz'
  obtain ⟨a0, rfl, k0⟩ := arg_struct Tryz.underlying24 Au.opn24 H enc W base v0 d0 p0 (hval' 0 _ v0 rfl rfl) h0 (hz'.1)
  obtain ⟨a1, s1, k1, y1⟩ := arg_slice Tryz.underlying25 (opn_slice (n := 9) (bytes := 88) Tryz.underlying25 (by kernel_rfl) (by decide) (by kernel_rfl) AM.opn29) H enc W base v1 d1 p1 (hval' 1 _ v1 rfl rfl) h1 (hz'.2.1)
  exact (Dg.ok a0 v1 a1 s1 true (Go.Proofs.YtpanhdnglicknaaGreat.Pure.StorePlays a0 a1 k0 k1 y1)).mono fun _ _ _ _ ⟨v, he, hv⟩ => ⟨v, he, hv.1⟩
theorem over : Rows.storePlaysRow.holds Tryz.pinned (OpenSpec.ofChange Rows.storePlaysSpec) :=
 OpenClaim.holds_of_wide 7 Tryz.f7 rfl rfl rfl rfl rfl rfl rfl ⟨rfl, rfl, rfl, rfl, rfl⟩ rfl rfl rfl rfl rfl (by kernel_rfl) Tryz.func7 (by kernel_rfl)
  (of_decide_eq_true (by kernel_rfl)) (by unfold Func.isWrapper; first | (rw [if_pos (by decide +kernel)]; kernel_rfl) | (rw [if_neg (by decide +kernel)]; exact ⟨rfl, rfl⟩))
  (fun os started H enc _ => lifted os started H enc)
theorem proved : Rows.StorePlaysSaid := over
#print axioms proved
end Go.Proofs.YtpanhdnglicknaaGreat.lawStorePlays
namespace Go.Proofs.YtpanhdnglicknaaGreat
theorem storePlays_holds : Rows.StorePlaysSaid := lawStorePlays.proved
end Go.Proofs.YtpanhdnglicknaaGreat
