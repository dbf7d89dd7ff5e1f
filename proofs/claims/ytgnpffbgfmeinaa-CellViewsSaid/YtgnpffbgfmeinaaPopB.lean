import Derived.Test.YtgnpffbgfmeinaaW1
import Derived.Test.YtgnpffbgfmeinaaPwireA
import Derived.Test.YtgnpffbgfmeinaaPwireB
import Derived.Test.YtgnpffbgfmeinaaPwireC
import Derived.Test.YtgnpffbgfmeinaaPwireD
import Derived.Test.YtgnpffbgfmeinaaPwireE
import Derived.Test.YtgnpffbgfmeinaaPwireF
import Derived.Test.YtgnpffbgfmeinaaPwireG
import Derived.Test.YtgnpffbgfmeinaaPwireH
import Derived.Test.YtgnpffbgfmeinaaPwireI
import Derived.Test.YtgnpffbgfmeinaaPwireJ
import Derived.Test.YtgnpffbgfmeinaaPwireK
import Derived.Test.YtgnpffbgfmeinaaPwireL
import Derived.Test.YtgnpffbgfmeinaaPwireM
import Derived.Test.YtgnpffbgfmeinaaPopA
set_option linter.unusedVariables false
set_option linter.unusedSimpArgs false
set_option maxRecDepth 100000
set_option maxHeartbeats 8000000

namespace Go.Proofs.Ytgnpffbgfmeinaa.Pure
open Go Go.Proofs.Ytgnpffbgfmeinaa.Hw Go.Proofs.Ytgnpffbgfmeinaa

theorem op_awake : hawthornlaw10_awake = some true := by decide +kernel
theorem cut_some (o : api_Op) : ∃ p, hawthornlaw10_cut o = some p := by
  unfold hawthornlaw10_cut
  by_cases h : (70 : Int) < o.Key.length
  · rw [if_pos (by simpa using h), sl_lo (by omega) (by omega), Option.bind_some, Option.bind_some]
    by_cases h2 : (4100 : Int) < o.Value.length
    · rw [if_pos (by simpa using h2), sl_lo (by omega) (by omega), Option.bind_some]; exact ⟨_, rfl⟩
    · rw [if_neg (by simpa using h2)]; exact ⟨_, rfl⟩
  · rw [if_neg (by simpa using h), Option.bind_some]
    by_cases h2 : (4100 : Int) < o.Value.length
    · rw [if_pos (by simpa using h2), sl_lo (by omega) (by omega), Option.bind_some]; exact ⟨_, rfl⟩
    · rw [if_neg (by simpa using h2)]; exact ⟨_, rfl⟩
theorem OpChecks (x : api_Op) {p : Prop} (_ : p) : hawthornlaw10_OpChecks x = some true := by
  obtain ⟨o, ho⟩ := cut_some x
  unfold hawthornlaw10_OpChecks
  rw [ho, Option.bind_some, op_awake, Option.bind_some, check_same]
  simp only [bne_self_eq_false, Bool.not_true, Bool.or_self, Bool.false_eq_true, if_false]
  cases hc : hawthornref10_Check o
  · rfl
  · rw [← check_same] at hc
    obtain ⟨b, h1, h2, h3, h4⟩ := op_there o hc
    have h5 := h4 []
    rw [List.append_nil] at h5
    rw [h1, Option.bind_some]
    unfold hawthornlaw10_OpChecks_1
    rw [h5, Option.bind_some]
    dsimp only [sm]
    simp [h2, sm]
theorem OpRecords (x : api_Record) (y : api_Reply) {p q : Prop} (_ : p) (_ : q) : hawthornlaw10_OpRecords x y = some true := by
  obtain ⟨o, ho⟩ := cut_some x.Op
  unfold hawthornlaw10_OpRecords
  rw [ho, Option.bind_some]
  have hv : ∃ v, (if decide ((4096 : Int) < (y.Value.length : Int)) = true then (sl y.Value 0 4096).bind fun s55 => some s55 else some y.Value) = some v ∧ v.length ≤ 4096 := by
    by_cases h : (4096 : Int) < y.Value.length
    · rw [if_pos (by simpa using h), sl_lo (by omega) (by omega), Option.bind_some]; exact ⟨_, rfl, by simp; omega⟩
    · rw [if_neg (by simpa using h)]; exact ⟨_, rfl, by omega⟩
  have he : ∃ e, (if (decide (y.E < 0) || decide ((65535 : Int) < y.E)) = true then some 5 else some y.E) = some e ∧ 0 ≤ e ∧ e ≤ 65535 := by
    by_cases h : y.E < 0 ∨ 65535 < y.E
    · rw [if_pos (by simpa using h)]; exact ⟨_, rfl, by decide, by decide⟩
    · rw [if_neg (by simpa using h)]; exact ⟨_, rfl, by omega, by omega⟩
  obtain ⟨v, hv1, hv2⟩ := hv
  obtain ⟨e, he1, he2, he3⟩ := he
  rw [hv1, Option.bind_some, he1, Option.bind_some]
  obtain ⟨b, h1, h2, h3, h4⟩ := reply_there ⟨e, v, y.Version⟩ he2 he3 hv2
  have h5 := h4 []
  rw [List.append_nil] at h5
  have h6 : hawthornlaw10_reply b = some (⟨e, v, y.Version⟩, 0) := by
    unfold hawthornlaw10_reply hawthornlaw10_reply_1
    rw [h5, Option.bind_some]
    rfl
  rw [h1, Option.bind_some, h6, Option.bind_some, op_awake, Option.bind_some, if_pos rfl, h2, Option.bind_some, Option.bind_some]
  simp only [bne_self_eq_false, decide_true, Bool.not_true, Bool.or_self, Bool.false_eq_true, if_false]
  rw [← check_same]
  cases hc : op_Check o
  · rfl
  · obtain ⟨c, g1, g2, g3, g4⟩ := record_there ⟨x.Seq, x.Now, x.Session, x.Num, o⟩ hc
    have g5 := g4 []
    rw [List.append_nil] at g5
    have g6 : op_Get c = some (⟨x.Seq, x.Now, x.Session, x.Num, o⟩, 0) := by
      unfold op_Get op_Get_1
      rw [g5, Option.bind_some]
      rfl
    rw [Bool.not_true, if_neg (by decide), g1, Option.bind_some, g6, Option.bind_some]
    unfold hawthornlaw10_OpRecords_1
    rw [g5, Option.bind_some]
    dsimp only [sm]
    rw [Option.bind_some]
    dsimp only [sm]
    simp [g2]
end Go.Proofs.Ytgnpffbgfmeinaa.Pure
