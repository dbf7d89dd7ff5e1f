import Derived.Test.YtgnpffbgfmeinaaW1
import Derived.Test.YtgnpffbgfmeinaaPwireA
import Derived.Test.YtgnpffbgfmeinaaPwireB
import Derived.Test.YtgnpffbgfmeinaaPwireC
import Derived.Test.YtgnpffbgfmeinaaPwireD
import Derived.Test.YtgnpffbgfmeinaaPwireE
import Derived.Test.YtgnpffbgfmeinaaPwireF
import Derived.Test.YtgnpffbgfmeinaaPwireG
import Derived.Test.YtgnpffbgfmeinaaPwireH
set_option linter.unusedVariables false
set_option linter.unusedSectionVars false
set_option linter.unusedSimpArgs false
set_option maxRecDepth 100000
set_option maxHeartbeats 8000000

namespace Go.Proofs.Ytgnpffbgfmeinaa.Pure
open Go Go.Proofs.Ytgnpffbgfmeinaa.Hw Go.Proofs.Ytgnpffbgfmeinaa

/-! what opens a frame: the code and the document -/

theorem num_shrinks : ∀ (k : Nat) (n : UInt64) (j : Int) (s : Str) (m : UInt64) (t : Str), wire_Reader_Num_l0 k n j s = some (.inl (m, t)) → t.length ≤ s.length := by
  intro k
  induction k with
  | zero => intro n j s m t h; cases h
  | succ k ih =>
    intro n j s m t h
    unfold wire_Reader_Num_l0 at h
    split at h
    case isFalse => cases h; exact Nat.le_refl _
    cases s with
    | nil =>
      rw [one_nil.1, Option.bind_some] at h
      cases h
    | cons c tl =>
      rw [(one_cons c tl).1, Option.bind_some] at h
      dsimp only [sm] at h
      have hg : gi [c] 0 = some c := rfl
      rw [hg, Option.bind_some] at h
      generalize i64 (7 * j) = q at h
      generalize i64 (j + 1) = j1 at h
      split at h
      · cases h
      · rw [Option.bind_some] at h
        dsimp only at h
        split at h
        case isFalse => cases h
        split at h
        · cases h; simp
        · have := ih _ _ _ _ _ h
          simp; omega
theorem num_short (s : Str) (top x : UInt64) (rd : wire_Reader) (h : wire_Reader_Num ⟨s⟩ top = some (.inl (x, rd))) : rd.s.length ≤ s.length := by
  unfold wire_Reader_Num at h
  dsimp only at h
  cases h1 : wire_Reader_Num_l0 11 0 0 s with
  | none => rw [h1] at h; cases h
  | some r =>
    rw [h1, Option.bind_some] at h
    rcases r with ⟨n, s'⟩ | q
    · have hs := num_shrinks _ _ _ _ _ _ h1
      dsimp only at h
      split at h
      · cases h
      · cases h; exact hs
    · dsimp only at h
      obtain ⟨r, a, g1, _, g3⟩ := num_loop 11 0 0 1 s rfl (by omega) (fun _ => ⟨by decide, by decide⟩)
      have g1' : wire_Reader_Num_l0 11 0 0 s = some r := g1
      rw [h1] at g1'
      cases g1'
      cases h
      exact g3.elim
theorem text_short_gen (w : UInt64 → Int) (s x : Str) (p : UInt64) (rd : wire_Reader) (h : ((wire_Reader_Num ⟨s⟩ p).bind fun r0 => sm r0 (fun (ra2 : UInt64 × wire_Reader) => (wire_Reader_Bytes ra2.2 (w ra2.1)).bind fun r6 => sm r6 (fun (ra8 : Str × wire_Reader) => some (Sum.inl (ra8.1, ra8.2))) fun ((rn9, ro10) : Int × wire_Reader) => some (Sum.inr (rn9, ro10))) fun ((rn3, ro4) : Int × wire_Reader) => some (Sum.inr (rn3, ro4))) = some (Sum.inl (x, rd))) : rd.s.length ≤ s.length := by
  cases h1 : wire_Reader_Num ⟨s⟩ p with
  | none => rw [h1] at h; cases h
  | some r =>
    rw [h1, Option.bind_some] at h
    rcases r with ⟨y, rd1⟩ | ⟨e, rd1⟩
    · have hs := num_short s p y rd1 h1
      obtain ⟨S⟩ := rd1
      dsimp only [sm] at h
      obtain ⟨r2, a2, v2, g1, _, _, g4⟩ := bytes_rel S (w y)
      rw [g1, Option.bind_some] at h
      rcases r2 with ⟨x2, rd2⟩ | ⟨e2, rd2⟩
      · cases h
        obtain ⟨_, _, h5, _⟩ := g4 _ _ rfl
        rw [h5]
        dsimp only at hs
        simp; omega
      · cases h
    · cases h
theorem text_short (s x : Str) (top : Int) (rd : wire_Reader) (h : wire_Reader_Text ⟨s⟩ top = some (.inl (x, rd))) : rd.s.length ≤ s.length := by
  unfold wire_Reader_Text at h
  exact text_short_gen (fun x => i64 (x.toNat : Int)) s x _ rd h
end Go.Proofs.Ytgnpffbgfmeinaa.Pure
