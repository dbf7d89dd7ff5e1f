import Derived.Test.YtgnpffbgfmeinaaW1
import Derived.Test.YtgnpffbgfmeinaaPwireA
import Derived.Test.YtgnpffbgfmeinaaPwireB
import Derived.Test.YtgnpffbgfmeinaaPwireC
import Derived.Test.YtgnpffbgfmeinaaPwireD
import Derived.Test.YtgnpffbgfmeinaaPwireE
set_option linter.unusedVariables false
set_option linter.unusedSectionVars false
set_option linter.unusedSimpArgs false
set_option maxRecDepth 100000
set_option maxHeartbeats 8000000

namespace Go.Proofs.Ytgnpffbgfmeinaa.Pure
open Go Go.Proofs.Ytgnpffbgfmeinaa.Hw Go.Proofs.Ytgnpffbgfmeinaa

/-! texts, yes or no -/

theorem ref_bytes_err (s : Str) (e : Int) (n : Int) (he : e ≠ 0) : hawthornref03_At_Bytes ⟨s, e⟩ n = some (⟨s, e⟩, []) := by
  unfold hawthornref03_At_Bytes
  have e1 : (e == 0) = false := by simpa using he
  have e2 : (e != 0) = true := by simpa using he
  dsimp only
  rw [e1, Bool.false_and, if_neg (by decide), Option.bind_some, e2, if_pos rfl]

theorem text_step (S : Str) (n : Int) : ∃ r a v, ((wire_Reader_Bytes ⟨S⟩ n).bind fun r6 => sm r6 (fun (ra8 : Str × wire_Reader) => some (Sum.inl (ra8.1, ra8.2))) fun ((rn9, ro10) : Int × wire_Reader) => some (Sum.inr (rn9, ro10))) = some r ∧
    ((hawthornref03_At_Bytes ⟨S, 0⟩ n).bind fun r9 => some (r9.1, r9.2)) = some (a, v) ∧ rel [] r a v := by
  obtain ⟨r2, a2, v2, g1, g2, g3, _⟩ := bytes_rel S n
  rw [g1, g2, Option.bind_some, Option.bind_some]
  rcases r2 with ⟨x2, rd2⟩ | ⟨e2, rd2⟩
  · exact ⟨_, _, _, rfl, rfl, g3⟩
  · exact ⟨_, _, _, rfl, rfl, g3⟩
theorem text_err (S : Str) (e n : Int) (rd : wire_Reader) (he : e ≠ 0) : ∃ (r : (Str × wire_Reader) ⊕ (Int × wire_Reader)) (a : hawthornref03_At) (v : Str), (some (Sum.inr (e, rd)) : Option ((Str × wire_Reader) ⊕ (Int × wire_Reader))) = some r ∧
    ((hawthornref03_At_Bytes ⟨S, e⟩ n).bind fun r9 => some (r9.1, r9.2)) = some (a, v) ∧ rel [] r a v := by
  rw [ref_bytes_err _ _ _ he, Option.bind_some]
  exact ⟨_, _, _, rfl, rfl, rfl, he⟩
theorem text_gen (w : UInt64 → Int) (s : Str) (p : UInt64) : ∃ r a v, ((wire_Reader_Num ⟨s⟩ p).bind fun r0 => sm r0 (fun (ra2 : UInt64 × wire_Reader) => (wire_Reader_Bytes ra2.2 (w ra2.1)).bind fun r6 => sm r6 (fun (ra8 : Str × wire_Reader) => some (Sum.inl (ra8.1, ra8.2))) fun ((rn9, ro10) : Int × wire_Reader) => some (Sum.inr (rn9, ro10))) fun ((rn3, ro4) : Int × wire_Reader) => some (Sum.inr (rn3, ro4))) = some r ∧
      ((hawthornref03_At_Num ⟨s, 0⟩ p).bind fun r6 => (hawthornref03_At_Bytes r6.1 (w r6.2)).bind fun r9 => some (r9.1, r9.2)) = some (a, v) ∧ rel [] r a v := by
  obtain ⟨r, a, v, h1, h2, h3⟩ := num_rel s p
  rw [h1, h2, Option.bind_some, Option.bind_some]
  rcases r with ⟨x, rd⟩ | ⟨e, rd⟩
  · obtain ⟨rfl, rfl⟩ := h3
    obtain ⟨S⟩ := rd
    exact text_step S (w x)
  · obtain ⟨h4, h5⟩ := h3
    obtain ⟨S, E⟩ := a
    dsimp only at h4
    subst h4
    exact text_err S E (w v) rd h5
theorem text_rel (s : Str) (top : Int) : ∃ r a v, wire_Reader_Text ⟨s⟩ top = some r ∧ hawthornref03_At_Text ⟨s, 0⟩ top = some (a, v) ∧ rel [] r a v := by
  unfold wire_Reader_Text hawthornref03_At_Text
  by_cases h : top < 0
  · have e : decide (top < 0) = true := by simpa using h
    rw [if_pos h, if_pos e, Option.bind_some]
    exact text_gen (fun x => i64 (x.toNat : Int)) s (toW 0)
  · have e : ¬ decide (top < 0) = true := by simpa using h
    rw [if_neg h, if_neg e, Option.bind_some]
    exact text_gen (fun x => i64 (x.toNat : Int)) s (toW top)

theorem flag_rel (s : Str) : ∃ r a v, wire_Reader_Flag ⟨s⟩ = some r ∧ hawthornref03_At_Flag ⟨s, 0⟩ = some (a, v) ∧ rel false r a v := by
  cases s with
  | nil => exact ⟨.inr (4, ⟨[]⟩), ⟨[], 4⟩, false, by decide +kernel, by decide +kernel, rfl, by decide⟩
  | cons c tl =>
    unfold wire_Reader_Flag hawthornref03_At_Flag
    have hg : gi [c] 0 = some c := rfl
    rw [(one_cons c tl).1, (one_cons c tl).2, Option.bind_some, Option.bind_some]
    dsimp only [sm]
    rw [hg]
    simp only [Option.bind_some, beq_self_eq_true, if_true]
    by_cases h : decide (1 < c) = true
    · rw [if_pos h, if_pos h]
      exact ⟨.inr (6, ⟨tl⟩), ⟨tl, 6⟩, false, rfl, rfl, rfl, by decide⟩
    · rw [if_neg h, if_neg h]
      exact ⟨.inl (c == 1, ⟨tl⟩), ⟨tl, 0⟩, (c == 1), rfl, rfl, rfl, rfl⟩
end Go.Proofs.Ytgnpffbgfmeinaa.Pure
