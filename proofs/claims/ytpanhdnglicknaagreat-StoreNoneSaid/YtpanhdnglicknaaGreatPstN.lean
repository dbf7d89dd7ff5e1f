import Derived.Test.YtpanhdnglicknaaGreatW3
import Derived.Test.YtpanhdnglicknaaGreatPskZ
import Derived.Test.YtpanhdnglicknaaGreatPskP
import Derived.Test.YtpanhdnglicknaaGreatPringA
import Derived.Test.YtpanhdnglicknaaGreatPringB
import Derived.Test.YtpanhdnglicknaaGreatPringC
import Derived.Test.YtpanhdnglicknaaGreatPringD
import Derived.Test.YtpanhdnglicknaaGreatPringE
import Derived.Test.YtpanhdnglicknaaGreatPringF
import Derived.Test.YtpanhdnglicknaaGreatPtinyZ
import Derived.Test.YtpanhdnglicknaaGreatPtinyB
import Derived.Test.YtpanhdnglicknaaGreatPtinyC
import Derived.Test.YtpanhdnglicknaaGreatPtinyY
import Derived.Test.YtpanhdnglicknaaGreatParcA
import Derived.Test.YtpanhdnglicknaaGreatParcB
import Derived.Test.YtpanhdnglicknaaGreatPpolA
import Derived.Test.YtpanhdnglicknaaGreatPstA
import Derived.Test.YtpanhdnglicknaaGreatPstB
import Derived.Test.YtpanhdnglicknaaGreatPstC
import Derived.Test.YtpanhdnglicknaaGreatPstR
set_option linter.unusedVariables false
set_option linter.unusedSectionVars false
set_option linter.unusedSimpArgs false
set_option maxRecDepth 100000
set_option maxHeartbeats 8000000

namespace Go.Proofs.YtpanhdnglicknaaGreat.Pure
open Go Go.Proofs.YtpanhdnglicknaaGreat.Hw Go.Proofs.YtpanhdnglicknaaGreat

theorem om_none {α β : Type} (n : β) (f : α → β) : om (none : Option α) n f = n := rfl
theorem chk_same (c : api_Config) : store_Check c = hawthornref12_Check c := by
  unfold store_Check hawthornref12_Check
  have h1 : decide (1 ≤ c.Entries) = decide (0 < c.Entries) := by rw [decide_eq_decide]; omega
  have h2 : decide (1 ≤ c.Bytes) = decide (0 < c.Bytes) := by rw [decide_eq_decide]; omega
  rw [h1, h2]
theorem new_any (c : api_Config) : (store_Check c = false ∧ store_New c = some (none, 1)) ∨ (store_Check c = true ∧ ∃ s, store_New c = some (some s, 0)) := by
  by_cases h : store_Check c = true
  · right
    refine ⟨h, ?_⟩
    obtain ⟨k, e, b, d⟩ := c
    unfold store_Check at h
    simp only [Bool.and_eq_true, Bool.or_eq_true, decide_eq_true_eq, beq_iff_eq] at h
    obtain ⟨⟨⟨⟨h1, h2⟩, h3⟩, h4⟩, h5⟩ := h
    obtain ⟨n, rfl⟩ : ∃ n : Nat, e = (n : Int) := ⟨e.toNat, by omega⟩
    obtain ⟨B, rfl⟩ : ∃ n : Nat, b = (n : Int) := ⟨b.toNat, by omega⟩
    rcases h1 with rfl | rfl
    · obtain ⟨p, q, _⟩ := new_s 1 (.inl rfl) n B d (by omega) (by omega) (by omega) (by omega)
      exact ⟨_, q⟩
    · obtain ⟨p, q, _⟩ := new_s 2 (.inr rfl) n B d (by omega) (by omega) (by omega) (by omega)
      exact ⟨_, q⟩
  · left
    have h := Bool.eq_false_iff.2 h
    refine ⟨h, ?_⟩
    unfold store_New
    rw [if_pos (by rw [h]; rfl)]
theorem StoreNone (c : api_Config) (a : hawthornlaw12_Act) {p q : Prop} (_ : p) (_ : q) : hawthornlaw12_StoreNone c a = some true := by
  obtain ⟨y, nx, e1, _⟩ := rec_ok 0 0 a (by decide)
  obtain ⟨p0, e0, _⟩ := new_s 1 (.inl rfl) 1 1 0 (by omega) (by omega) (by omega) (by omega)
  generalize hs0 : (⟨⟨((1 : Nat) : Int), ((1 : Nat) : Int), ((1 : Nat) : Int), 0⟩, some ⟨[], 0⟩, some p0, [], 0, 0, 0, ⟨0, 0⟩⟩ : store_Store) = s0 at e0
  have hq : s0.seq = 0 := by rw [← hs0]
  have u1 : store_Store_Apply s0 ⟨1, 0, 0, 0, ⟨0, [], [], 0, 0⟩⟩ = some (⟨0, [], 0⟩, 1, s0) := st_refuse (by decide)
  have u2 : store_Store_Apply s0 ⟨3, 0, 0, 0, ⟨5, [], [], 0, 0⟩⟩ = some (⟨0, [], 0⟩, 123, s0) := st_seq (by decide) (by rw [hq]; decide)
  have hsq : (store_Store_Seq s0 == 0) = true := by unfold store_Store_Seq; rw [hq]; decide
  have hcs := chk_same c
  unfold hawthornlaw12_StoreNone
  rw [e1, Option.bind_some, lt_eq, lt_eq]
  rcases new_any c with ⟨hc, e2⟩ | ⟨hc, s, e2⟩
  · rw [hc] at hcs
    rw [e2, Option.bind_some, show store_New (⟨1, 1, 1, 0⟩ : api_Config) = _ from e0, Option.bind_some, om_some, u1, Option.bind_some, Option.bind_some, om_some, u2, Option.bind_some, Option.bind_some, awake12, Option.bind_some, if_pos (by rfl), lt_eq, om_none, om_some, hc, ← hcs, if_pos (by rfl), hsq]
  · rw [hc] at hcs
    rw [e2, Option.bind_some, show store_New (⟨1, 1, 1, 0⟩ : api_Config) = _ from e0, Option.bind_some, om_some, u1, Option.bind_some, Option.bind_some, om_some, u2, Option.bind_some, Option.bind_some, awake12, Option.bind_some, if_pos (by rfl), lt_eq, om_some, om_some, hc, ← hcs, if_pos (by rfl), hsq]
end Go.Proofs.YtpanhdnglicknaaGreat.Pure
