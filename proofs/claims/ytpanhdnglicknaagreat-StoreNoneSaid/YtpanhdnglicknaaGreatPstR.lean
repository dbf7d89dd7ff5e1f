import Derived.Test.YtpanhdnglicknaaGreatW3
import Derived.Test.YtpanhdnglicknaaGreatPskZ
import Derived.Test.YtpanhdnglicknaaGreatPskP
import Derived.Test.YtpanhdnglicknaaGreatPringA
import Derived.Test.YtpanhdnglicknaaGreatPringB
import Derived.Test.YtpanhdnglicknaaGreatPringC
import Derived.Test.YtpanhdnglicknaaGreatPringD
import Derived.Test.YtpanhdnglicknaaGreatPringE
import Derived.Test.YtpanhdnglicknaaGreatPringF
import Derived.Test.YtpanhdnglicknaaGreatPtinyZ
import Derived.Test.YtpanhdnglicknaaGreatPtinyB
import Derived.Test.YtpanhdnglicknaaGreatPtinyC
import Derived.Test.YtpanhdnglicknaaGreatPtinyY
import Derived.Test.YtpanhdnglicknaaGreatParcA
import Derived.Test.YtpanhdnglicknaaGreatParcB
import Derived.Test.YtpanhdnglicknaaGreatPpolA
import Derived.Test.YtpanhdnglicknaaGreatPstA
import Derived.Test.YtpanhdnglicknaaGreatPstB
import Derived.Test.YtpanhdnglicknaaGreatPstC
set_option linter.unusedVariables false
set_option linter.unusedSectionVars false
set_option linter.unusedSimpArgs false
set_option maxRecDepth 100000
set_option maxHeartbeats 8000000

namespace Go.Proofs.YtpanhdnglicknaaGreat.Pure
open Go Go.Proofs.YtpanhdnglicknaaGreat.Hw Go.Proofs.YtpanhdnglicknaaGreat

theorem cutS (k : Str) (m : Nat) (hm : m ≤ 5000) : ∃ r, (if decide ((m : Int) < (k.length : Int)) then (sl k 0 (m : Int)).bind fun s => some s else some k) = some r := by
  by_cases h : m < k.length
  · rw [if_pos (by simp; omega)]
    unfold sl
    rw [if_pos (by omega)]
    exact ⟨_, rfl⟩
  · rw [if_neg (by simp; omega)]
    exact ⟨_, rfl⟩
theorem and_le (a : UInt64) (m : Nat) (hm : m < 1000) : (a &&& UInt64.ofNat m).toNat ≤ m := by
  rw [UInt64.toNat_and, UInt64.toNat_ofNat']
  exact Nat.le_trans Nat.and_le_right (Nat.mod_le _ _)
theorem rec_ok (sq now : UInt64) (a : hawthornlaw12_Act) (hn : now.toNat ≤ 1000000) : ∃ y nx, hawthornlaw12_record sq now a = some (y, nx) ∧ y.Now = nx ∧ y.Session.toNat < 8 ∧ y.Num.toNat ≤ 31 ∧ now.toNat ≤ nx.toNat ∧ nx.toNat ≤ now.toNat + 100 := by
  obtain ⟨k, hk⟩ := cutS a.Op.Key 70 (by omega)
  obtain ⟨v, hv⟩ := cutS a.Op.Value 1200 (by omega)
  have hk : (if decide ((70 : Int) < (a.Op.Key.length : Int)) then (sl a.Op.Key 0 70).bind fun s => some s else some a.Op.Key) = some k := hk
  have hv : (if decide ((1200 : Int) < (a.Op.Value.length : Int)) then (sl a.Op.Value 0 1200).bind fun s => some s else some a.Op.Value) = some v := hv
  have c100 : (100 : UInt64).toNat = 100 := rfl
  have hT : ∃ nx : UInt64, (if decide (a.Ticks ≤ 100) = true then some (now + a.Ticks) else some now) = some nx ∧ now.toNat ≤ nx.toNat ∧ nx.toNat ≤ now.toNat + 100 := by
    by_cases c : a.Ticks ≤ 100
    · rw [if_pos (by simpa using c)]
      rw [UInt64.le_iff_toNat_le, c100] at c
      refine ⟨_, rfl, ?_, ?_⟩ <;> rw [UInt64.toNat_add] <;> omega
    · rw [if_neg (by simpa using c)]
      exact ⟨_, rfl, by omega, by omega⟩
  obtain ⟨nx, e, h1, h2⟩ := hT
  unfold hawthornlaw12_record
  rw [hk, Option.bind_some, hv, Option.bind_some, e, Option.bind_some]
  refine ⟨_, nx, rfl, rfl, ?_, ?_, h1, h2⟩
  · have := and_le a.Session 7 (by omega); exact Nat.lt_succ_of_le this
  · exact and_le a.Num 31 (by omega)
end Go.Proofs.YtpanhdnglicknaaGreat.Pure
