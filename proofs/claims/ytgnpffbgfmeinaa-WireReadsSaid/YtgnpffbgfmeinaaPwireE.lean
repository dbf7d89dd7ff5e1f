import Derived.Test.YtgnpffbgfmeinaaW1
import Derived.Test.YtgnpffbgfmeinaaPwireA
import Derived.Test.YtgnpffbgfmeinaaPwireB
import Derived.Test.YtgnpffbgfmeinaaPwireC
import Derived.Test.YtgnpffbgfmeinaaPwireD
set_option linter.unusedVariables false
set_option linter.unusedSectionVars false
set_option linter.unusedSimpArgs false
set_option maxRecDepth 100000
set_option maxHeartbeats 8000000

namespace Go.Proofs.Ytgnpffbgfmeinaa.Pure
open Go Go.Proofs.Ytgnpffbgfmeinaa.Hw Go.Proofs.Ytgnpffbgfmeinaa

theorem num_back (n top : UInt64) (rest : Str) (h : n ≤ top) : wire_Reader_Num ⟨enc 11 n.toNat ++ rest⟩ top = some (.inl (n, ⟨rest⟩)) := by
  have hn : n.toNat < 128 ^ (10 + 1) := Nat.lt_of_lt_of_le n.toNat_lt (by decide)
  obtain ⟨m, h1, h2⟩ := read_loop 10 0 n.toNat 0 rest (by omega) (by simpa using n.toNat_lt) (fun h => absurd h (by omega)) hn (by decide)
  have e : m = n := by
    apply UInt64.toNat_inj.1
    rw [h2]
    simp
  subst e
  unfold wire_Reader_Num
  have h1' : wire_Reader_Num_l0 11 0 0 (enc 11 m.toNat ++ rest) = some (.inl (m, rest)) := h1
  dsimp only
  rw [h1', Option.bind_some]
  dsimp only
  have hlt : ¬ decide (top < m) = true := by
    rw [decide_eq_true_iff, UInt64.lt_iff_toNat_lt]
    rw [UInt64.le_iff_toNat_le] at h
    omega
  rw [if_neg hlt]

theorem few_some (s : Str) : ∃ t, hawthornlaw03_few s = some t ∧ t.length ≤ 300 := by
  unfold hawthornlaw03_few
  by_cases h : (300 : Int) < s.length
  · have e : decide ((300 : Int) < s.length) = true := by simpa using h
    rw [if_pos e, sl_lo (by omega) (by omega)]
    exact ⟨_, rfl, by simp; omega⟩
  · have e : ¬ decide ((300 : Int) < s.length) = true := by simpa using h
    rw [if_neg e]
    exact ⟨_, rfl, by omega⟩

/-- What the law's own reading tells of a reader's outcome: the value (z: none), the error. -/
def out {α : Type} (z : α) (r : (α × wire_Reader) ⊕ (Int × wire_Reader)) : α × Int := match r with | .inl (x, rd) => (x, if rd.s == [] then 0 else 5) | .inr (e, _) => (z, e)
theorem num_of (s : Str) (top : UInt64) (r : (UInt64 × wire_Reader) ⊕ (Int × wire_Reader)) (h : wire_Reader_Num ⟨s⟩ top = some r) :
    hawthornlaw03_num s top = some (out 0 r) := by
  unfold hawthornlaw03_num hawthornlaw03_num_1
  rw [h, Option.bind_some]
  rcases r with ⟨x, rd⟩ | ⟨e, rd⟩ <;> rfl

theorem end_of {α : Type} {z y v : α} {r : (α × wire_Reader) ⊕ (Int × wire_Reader)} {a : hawthornref03_At} (h : rel z r a v) :
    hawthornref03_At_End a = (out y r).2 := by
  unfold hawthornref03_At_End out
  rcases r with ⟨x, rd⟩ | ⟨e, rd⟩
  · obtain ⟨rfl, _⟩ := h
    obtain ⟨s⟩ := rd
    cases s <;> simp
  · obtain ⟨h1, h2⟩ := h
    rw [h1]
    simp [h2]

theorem WireNums (n top : UInt64) (s : Str) (_ : sok s) : hawthornlaw03_WireNums n top s = some true := by
  obtain ⟨t, ht, _⟩ := few_some s
  obtain ⟨r, a, v, h1, h2, h3⟩ := num_rel t top
  obtain ⟨e1, e2⟩ := num_enc n
  have hb := num_back n n [] (by rw [UInt64.le_iff_toNat_le]; exact Nat.le_refl _)
  rw [List.append_nil] at hb
  have hend := end_of (y := 0) h3
  unfold hawthornlaw03_WireNums
  rw [ht, Option.bind_some, num_of _ _ _ h1, Option.bind_some, h2, Option.bind_some, e1, Option.bind_some, num_of _ _ _ hb, Option.bind_some, awake_true, Option.bind_some, if_pos rfl, e2, Option.bind_some]
  rw [hend]
  rcases r with ⟨x, rd⟩ | ⟨e, rd⟩
  · obtain ⟨rfl, rfl⟩ := h3
    simp [out]
  · obtain ⟨h4, h5⟩ := h3
    simp [out, h4, h5]
end Go.Proofs.Ytgnpffbgfmeinaa.Pure
