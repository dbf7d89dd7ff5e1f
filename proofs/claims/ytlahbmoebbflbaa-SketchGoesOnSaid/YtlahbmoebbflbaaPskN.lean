import Derived.Test.YtlahbmoebbflbaaW4
import Derived.Test.YtlahbmoebbflbaaPmixA
import Derived.Test.YtlahbmoebbflbaaPskA
import Derived.Test.YtlahbmoebbflbaaPskB
import Derived.Test.YtlahbmoebbflbaaPskC
import Derived.Test.YtlahbmoebbflbaaPskF
set_option linter.unusedVariables false
set_option linter.unusedSectionVars false
set_option linter.unusedSimpArgs false
set_option maxRecDepth 100000
set_option maxHeartbeats 8000000

namespace Go.Proofs.Ytlahbmoebbflbaa.Pure
open Go Go.Proofs.Ytlahbmoebbflbaa.Hw Go.Proofs.Ytlahbmoebbflbaa

theorem new_bad (n : Int) (seed : UInt64) (h : n < 1 ∨ 4096 < n) : sketch_New n seed = some (none, 1) := by
  unfold sketch_New
  rw [if_pos (by simp; omega)]
theorem SketchNone (a : Int) (x : Str) {p q : Prop} (_ : p) (_ : q) : hawthornlaw05_SketchNone a x = some true := by
  obtain ⟨r, hr, _⟩ := few_ex x
  obtain ⟨k, hk, hk2⟩ := iand_le a 8191 (by decide)
  obtain ⟨j, hj, hj2⟩ := iand_le a 7 (by decide)
  have ek : iand a 8191 = (k : Int) := hk
  have ej : iand a 7 = (j : Int) := hj
  have e2 : sketch_New (i64 (-1 - iand a 7)) 1 = some (none, 1) := new_bad _ _ (by rw [ej, i64_id] <;> omega)
  unfold hawthornlaw05_SketchNone
  rw [hr, Option.bind_some, e2, awake_true, ek]
  by_cases h : 1 ≤ k ∧ k ≤ 4096
  · rw [new_c k 1 h.1 h.2]
    simp only [Option.bind_some, if_true]
    have e3 : (decide ((1 : Int) ≤ (k : Int)) && decide ((k : Int) ≤ 4096)) = true := by simp; omega
    show some _ = _
    rw [e3]
    rfl
  · rw [new_bad (k : Int) 1 (by omega)]
    simp only [Option.bind_some, if_true]
    have e3 : (decide ((1 : Int) ≤ (k : Int)) && decide ((k : Int) ≤ 4096)) = false := by
      rw [Bool.eq_false_iff]; simp; omega
    show some _ = _
    rw [e3]
    rfl
end Go.Proofs.Ytlahbmoebbflbaa.Pure
