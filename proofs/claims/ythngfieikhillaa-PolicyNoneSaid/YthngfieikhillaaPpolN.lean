import Derived.Test.YthngfieikhillaaW4
set_option linter.unusedVariables false
set_option linter.unusedSectionVars false
set_option linter.unusedSimpArgs false
set_option maxRecDepth 100000
set_option maxHeartbeats 8000000

namespace Go.Proofs.Ythngfieikhillaa.Pure
open Go Go.Proofs.Ythngfieikhillaa.Hw Go.Proofs.Ythngfieikhillaa

theorem awake9 : hawthornlaw09_awake = some true := by decide +kernel
theorem few9 (x : Str) : ∃ r, hawthornlaw09_few x = some r ∧ r.length ≤ 80 := by
  unfold hawthornlaw09_few
  by_cases h : 80 < x.length
  · have e : decide ((80 : Int) < (x.length : Int)) = true := by simp; omega
    rw [if_pos e]
    unfold sl
    rw [if_pos (by omega), Option.bind_some]
    exact ⟨_, rfl, by simp; omega⟩
  · have e : ¬ decide ((80 : Int) < (x.length : Int)) = true := by simp; omega
    rw [if_neg e]
    exact ⟨_, rfl, by omega⟩
theorem pol_new : ∀ k : Fin 8, (policy_New (k.val : Int) 3 1).map (fun r => (r.1.isSome, r.2)) = some (decide (k.val = 1 ∨ k.val = 2), if k.val = 1 ∨ k.val = 2 then 0 else 1) := by decide +kernel
theorem pol_new1 : policy_New 1 0 1 = some (none, 1) := by decide +kernel
theorem pol_new2 : policy_New 2 1001 1 = some (none, 1) := by decide +kernel
theorem PolicyNone (a : Int) (key : Str) {p q : Prop} (_ : p) (_ : q) : hawthornlaw09_PolicyNone a key = some true := by
  obtain ⟨k, hk, hk2⟩ : ∃ k : Nat, iand a 7 = (k : Int) ∧ k ≤ 7 := by
    have e : (BitVec.ofInt 64 (7 : Int)).toNat = 7 := by decide
    have h2 : (BitVec.ofInt 64 a &&& BitVec.ofInt 64 (7 : Int)).toNat ≤ 7 := by
      rw [BitVec.toNat_and, e]; exact Nat.and_le_right
    unfold iand
    generalize (BitVec.ofInt 64 a &&& BitVec.ofInt 64 (7 : Int)).toNat = k at h2
    exact ⟨k, i64_id (by omega) (by omega), h2⟩
  obtain ⟨r, hr, _⟩ := few9 key
  have hn := pol_new ⟨k, by omega⟩
  dsimp only at hn
  unfold hawthornlaw09_PolicyNone
  rw [hr, Option.bind_some, hk]
  cases e : policy_New (k : Int) 3 1 with
  | none => rw [e] at hn; cases hn
  | some z =>
    obtain ⟨z1, z2⟩ := z
    rw [e] at hn
    simp only [Option.map_some, Option.some.injEq, Prod.mk.injEq] at hn
    obtain ⟨n1, n2⟩ := hn
    rw [show policy_Policy_Miss_n r = some () from rfl, Option.bind_some, show policy_Policy_Evict_n = some ([], false) from rfl, Option.bind_some, Option.bind_some, pol_new1, Option.bind_some, pol_new2, Option.bind_some, awake9, Option.bind_some, if_pos (by rfl),
      show policy_Policy_Has_n r = some false from rfl, Option.bind_some, if_neg (by decide), show policy_Policy_Len_n = some 0 from rfl, Option.bind_some, if_pos (by rfl), show policy_Policy_Touch_n r = some false from rfl, Option.bind_some, if_neg (by decide),
      show policy_Policy_Insert_n r = some [] from rfl, Option.bind_some, if_pos (by rfl), show policy_Policy_Remove_n r = some false from rfl, Option.bind_some, if_pos (by rfl), show policy_Policy_Export_n = some [] from rfl, Option.bind_some]
    have hc : (((k : Int) == 1) || ((k : Int) == 2)) = decide (k = 1 ∨ k = 2) := by
      rw [Bool.eq_iff_iff]; simp; omega
    dsimp only
    rw [hc]
    by_cases h : k = 1 ∨ k = 2
    · rw [if_pos h] at n2
      subst n2
      cases z1 with
      | none => simp [h] at n1
      | some z1 => simp [om, h]
    · rw [if_neg h] at n2
      subst n2
      cases z1 with
      | none => simp [om, h]
      | some z1 => simp [h] at n1
end Go.Proofs.Ythngfieikhillaa.Pure
