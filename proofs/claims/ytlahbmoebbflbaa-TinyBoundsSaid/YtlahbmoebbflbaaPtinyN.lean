import Derived.Test.YtlahbmoebbflbaaW6
import Derived.Test.YtlahbmoebbflbaaPmixA
import Derived.Test.YtlahbmoebbflbaaPskA
import Derived.Test.YtlahbmoebbflbaaPskB
import Derived.Test.YtlahbmoebbflbaaPskC
import Derived.Test.YtlahbmoebbflbaaPskP
import Derived.Test.YtlahbmoebbflbaaPringA
import Derived.Test.YtlahbmoebbflbaaPringB
import Derived.Test.YtlahbmoebbflbaaPringC
import Derived.Test.YtlahbmoebbflbaaPringD
import Derived.Test.YtlahbmoebbflbaaPringE
import Derived.Test.YtlahbmoebbflbaaPringF
import Derived.Test.YtlahbmoebbflbaaPtinyA
import Derived.Test.YtlahbmoebbflbaaPtinyB
import Derived.Test.YtlahbmoebbflbaaPtinyC
import Derived.Test.YtlahbmoebbflbaaPtinyK
set_option linter.unusedVariables false
set_option linter.unusedSectionVars false
set_option linter.unusedSimpArgs false
set_option maxRecDepth 100000
set_option maxHeartbeats 8000000

namespace Go.Proofs.Ytlahbmoebbflbaa.Pure
open Go Go.Proofs.Ytlahbmoebbflbaa.Hw Go.Proofs.Ytlahbmoebbflbaa

def cT : tiny_Tiny := match tiny_New 3 1 with | some (some t, _) => t | _ => default
def longK : Str := List.replicate 65 0
theorem cT_new : tiny_New 3 1 = some (some cT, 0) := by decide +kernel
theorem cT_ins : tiny_Tiny_Insert cT longK = some ([], cT) := by decide +kernel
theorem cT_miss : tiny_Tiny_Miss cT longK = some cT := by decide +kernel
theorem cT_len : tiny_Tiny_Len cT = some 0 := by decide +kernel
theorem cT_seen : tiny_Tiny_Seen cT longK = some 0 := by decide +kernel
theorem long_mk : mks 1 65 (0 : UInt8) = some longK := by decide +kernel
theorem TinyNone (a : Int) (key : Str) {p q : Prop} (_ : p) (_ : q) : hawthornlaw08_TinyNone a key = some true := by
  obtain ⟨k, hk, hk2⟩ := iand_le a 2047 (by decide)
  have hk : iand a 2047 = (k : Int) := hk
  obtain ⟨r, hr, _⟩ := few8 key
  unfold hawthornlaw08_TinyNone
  rw [hr, Option.bind_some, show tiny_Tiny_Evict_n = some ([], false) from rfl, Option.bind_some, hk]
  have hN : (1 ≤ k ∧ k ≤ 1000 ∧ ∃ t, tiny_New (k : Int) 1 = some (some t, 0)) ∨ (¬ (1 ≤ k ∧ k ≤ 1000) ∧ tiny_New (k : Int) 1 = some (none, 1)) := by
    by_cases h : 1 ≤ k ∧ k ≤ 1000
    · obtain ⟨t, s, e, _⟩ := new_t k 1 h.1 h.2
      exact .inl ⟨h.1, h.2, t, e⟩
    · refine .inr ⟨h, ?_⟩
      unfold tiny_New
      rw [if_pos (by simp; omega)]
  rcases hN with ⟨h1, h2, t, e⟩ | ⟨h, e⟩
  · have d1 : decide ((1 : Int) ≤ (k : Int)) = true := by simp; omega
    have d2 : decide ((k : Int) ≤ 1000) = true := by simp; omega
    rw [e, Option.bind_some, cT_new, Option.bind_some, long_mk, Option.bind_some]
    simp only [om_some, cT_ins, cT_miss, Option.bind_some, lt_eq, awake8, d1, d2, cT_len, cT_seen]
    rfl
  · have d1 : (decide ((1 : Int) ≤ (k : Int)) && decide ((k : Int) ≤ 1000)) = false := by
      rw [Bool.and_eq_false_iff]; simp; omega
    rw [e, Option.bind_some, cT_new, Option.bind_some, long_mk, Option.bind_some]
    simp only [om_some, cT_ins, cT_miss, Option.bind_some, lt_eq, awake8, d1, cT_len, cT_seen]
    rfl
end Go.Proofs.Ytlahbmoebbflbaa.Pure
