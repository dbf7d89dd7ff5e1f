/- The law hawthornlaw12.StoreMirrors answers true at every input, and its input reads behind the call as before. Conditions: none. -/
import Derived.Test.YtpanhdnglicknaaGreatRows
import Derived.Test.YtpanhdnglicknaaGreatW4
import Derived.Test.YtpanhdnglicknaaGreatQ0
import Derived.Test.YtpanhdnglicknaaGreatQ1
import Derived.Test.YtpanhdnglicknaaGreatQ2
import Derived.Test.YtpanhdnglicknaaGreatQ3
import Derived.Test.YtpanhdnglicknaaGreatQ4
set_option linter.unusedVariables false
set_option linter.unusedSectionVars false
set_option linter.unusedSimpArgs false
set_option maxRecDepth 100000
set_option maxHeartbeats 4000000
namespace Go.Proofs.YtpanhdnglicknaaGreat.lawStoreMirrors
open Go Go.Proofs.YtpanhdnglicknaaGreat.Hw Go.Proofs.YtpanhdnglicknaaGreat Go.ChangeShapes Go.WideShapes Go.RowKit
def Av.wf (x : Av) : Prop := iok x.Policy ∧ iok x.Entries ∧ iok x.Bytes ∧ True ∧ True
theorem Av.opn24 : Opn Tryz.prog 24 (rE Av.c fun _ x => Av.wf x) :=
 (opn_struct Tryz.underlying24 rfl (by kernel_rfl) (opnF_cons (n := 1) rfl (by kernel_rfl) (opn_I Tryz.underlying3) (opnF_cons (n := 1) rfl (by kernel_rfl) (opn_I Tryz.underlying3) (opnF_cons (n := 1) rfl (by kernel_rfl) (opn_I Tryz.underlying3) (opnF_cons (n := 1) rfl (by kernel_rfl) (opn_W Tryz.underlying22) opnF_nil))))).mono (fun x => ⟨x.1, x.2.1, x.2.2.1, x.2.2.2.1⟩) (by intro a; rfl) (by intro R a h; exact h)
def AH.wf (x : AH) : Prop := iok x.Kind ∧ sok x.Key ∧ sok x.Value ∧ True ∧ True ∧ True
theorem AH.opn27 : Opn Tryz.prog 27 (rE AH.c fun _ x => AH.wf x) :=
 (opn_struct Tryz.underlying27 rfl (by kernel_rfl) (opnF_cons (n := 1) rfl (by kernel_rfl) (opn_I Tryz.underlying3) (opnF_cons (n := 1) rfl (by kernel_rfl) (opn_S Tryz.underlying9) (opnF_cons (n := 1) rfl (by kernel_rfl) (opn_S Tryz.underlying9) (opnF_cons (n := 1) rfl (by kernel_rfl) (opn_W Tryz.underlying22) (opnF_cons (n := 1) rfl (by kernel_rfl) (opn_W Tryz.underlying22) opnF_nil)))))).mono (fun x => ⟨x.1, x.2.1, x.2.2.1, x.2.2.2.1, x.2.2.2.2.1⟩) (by intro a; rfl) (by intro R a h; exact h)
def Az.wf (x : Az) : Prop := True ∧ True ∧ True ∧ AH.wf x.Op ∧ iok x.Skip ∧ True
theorem Az.opn29 : Opn Tryz.prog 29 (rE Az.c fun _ x => Az.wf x) :=
 (opn_struct Tryz.underlying29 rfl (by kernel_rfl) (opnF_cons (n := 1) rfl (by kernel_rfl) (opn_W Tryz.underlying22) (opnF_cons (n := 1) rfl (by kernel_rfl) (opn_W Tryz.underlying22) (opnF_cons (n := 1) rfl (by kernel_rfl) (opn_W Tryz.underlying22) (opnF_cons (n := 5) rfl (by kernel_rfl) AH.opn27 (opnF_cons (n := 1) rfl (by kernel_rfl) (opn_I Tryz.underlying3) opnF_nil)))))).mono (fun x => ⟨x.1, x.2.1, x.2.2.1, x.2.2.2.1, x.2.2.2.2.1⟩) (by intro a; rfl) (by intro R a h; exact h)
theorem own : ownKnob Tryz.prog.godebug = none := by kernel_rfl
theorem laidOut : laidOutB Tryz.prog = true := by kernel_rfl
set_option maxRecDepth 100000 in
theorem lifted (os : Os) (started : os.Started) (H : Type) (enc : TypeId × Value → H) :
  ReturnsInHanded {} Tryz.checked os 9 .any (Rows.storeMirrorsSpec.pre6 enc Tryz.prog Tryz.f9 Rows.storeMirrorsRow.domain false) (Rows.storeMirrorsSpec.post enc Tryz.prog Tryz.f9 false true false false) := by
 refine law_lift (C := Tryz.checked) own started (by kernel_rfl) Tryz.func9 (ChangeSpec.witness6 (enc := enc) (C := Tryz.checked) false ⟨#[], #[.agg #[.int .i64 0, .int .i64 0, .int .i64 0, .int .u64 0], .slice none 0 0, .slice none 0 0], []⟩ 8 (by kernel_rfl) (by kernel_rfl) (by kernel_rfl) (by kernel_rfl))
  laidOut (by kernel_rfl) rfl (fun ds h => ?_) rfl Tryz.underlying4 (fun W base args ds p hval hA hz => ?_)
 ·match ds, h with
  | [d0, d1, d2], _ => rfl
 ·have hA' : DataW.TrodAll enc Tryz.prog W 0 (fun _ => true) true Tryz.f9.params.toList args ds p := hA
  have hz' : (DataW.weightsEach Tryz.prog Tryz.f9.params.toList ds).all (· ≤ reachBytes) = true := hz
  have hval' : ∀ (j : Nat) t v, Tryz.f9.params[j]? = some t → args.toArray[j]? = some v → Value.okWide Tryz.prog W .any base t v := hval
  rw [Tryz.params9] at hA' hval' hz'
  obtain ⟨v0, vs0, d0, ds0, p0, q0, rfl, rfl, rfl, h0, r0⟩ := trodAll_cons hA'
  obtain ⟨v1, vs1, d1, ds1, p1, q1, rfl, rfl, rfl, h1, r1⟩ := trodAll_cons r0
  obtain ⟨v2, vs2, d2, ds2, p2, q2, rfl, rfl, rfl, h2, r2⟩ := trodAll_cons r1
  obtain ⟨rfl, rfl, rfl⟩ := trodAll_nil r2
  simp only [DataW.weightsEach, List.all_append, Bool.and_eq_true] at hz'
  obtain ⟨a0, rfl, k0⟩ := arg_struct Tryz.underlying24 Av.opn24 H enc W base v0 d0 p0 (hval' 0 _ v0 rfl rfl) h0 (hz'.1)
  obtain ⟨a1, s1, k1, y1⟩ := arg_slice Tryz.underlying25 (opn_slice (n := 9) (bytes := 88) Tryz.underlying25 (by kernel_rfl) (by decide) (by kernel_rfl) Az.opn29) H enc W base v1 d1 p1 (hval' 1 _ v1 rfl rfl) h1 (hz'.2.1)
  obtain ⟨a2, s2, k2, y2⟩ := arg_slice Tryz.underlying25 (opn_slice (n := 9) (bytes := 88) Tryz.underlying25 (by kernel_rfl) (by decide) (by kernel_rfl) Az.opn29) H enc W base v2 d2 p2 (hval' 2 _ v2 rfl rfl) h2 (hz'.2.2.1)
  exact (BS.ok a0 v1 a1 s1 v2 a2 s2 true (Go.Proofs.YtpanhdnglicknaaGreat.Pure.StoreMirrors a0 a1 a2 k0 k1 y1 k2 y2)).mono fun _ _ _ _ ⟨v, he, hv⟩ => ⟨v, he, hv.1⟩
theorem over : Rows.storeMirrorsRow.holds Tryz.pinned (OpenSpec.ofChange Rows.storeMirrorsSpec) :=
 OpenClaim.holds_of_wide 9 Tryz.f9 rfl rfl rfl rfl rfl rfl rfl ⟨rfl, rfl, rfl, rfl, rfl⟩ rfl rfl rfl rfl rfl (by kernel_rfl) Tryz.func9 (by kernel_rfl)
  (of_decide_eq_true (by kernel_rfl)) (by unfold Func.isWrapper; first | (rw [if_pos (by decide +kernel)]; kernel_rfl) | (rw [if_neg (by decide +kernel)]; exact ⟨rfl, rfl⟩))
  (fun os started H enc _ => lifted os started H enc)
theorem proved : Rows.StoreMirrorsSaid := over
#print axioms proved
end Go.Proofs.YtpanhdnglicknaaGreat.lawStoreMirrors
namespace Go.Proofs.YtpanhdnglicknaaGreat
theorem storeMirrors_holds : Rows.StoreMirrorsSaid := lawStoreMirrors.proved
end Go.Proofs.YtpanhdnglicknaaGreat
