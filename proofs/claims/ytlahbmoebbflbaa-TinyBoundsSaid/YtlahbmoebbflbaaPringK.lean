import Derived.Test.YtlahbmoebbflbaaW6
import Derived.Test.YtlahbmoebbflbaaPmixA
import Derived.Test.YtlahbmoebbflbaaPskA
import Derived.Test.YtlahbmoebbflbaaPskB
import Derived.Test.YtlahbmoebbflbaaPskC
import Derived.Test.YtlahbmoebbflbaaPskP
import Derived.Test.YtlahbmoebbflbaaPringA
import Derived.Test.YtlahbmoebbflbaaPringB
import Derived.Test.YtlahbmoebbflbaaPringC
import Derived.Test.YtlahbmoebbflbaaPringD
import Derived.Test.YtlahbmoebbflbaaPringE
import Derived.Test.YtlahbmoebbflbaaPringF
import Derived.Test.YtlahbmoebbflbaaPtinyA
import Derived.Test.YtlahbmoebbflbaaPtinyB
import Derived.Test.YtlahbmoebbflbaaPtinyC
import Derived.Test.YtlahbmoebbflbaaPtinyK
import Derived.Test.YtlahbmoebbflbaaPtinyN
set_option linter.unusedVariables false
set_option linter.unusedSectionVars false
set_option linter.unusedSimpArgs false
set_option maxRecDepth 100000
set_option maxHeartbeats 8000000

namespace Go.Proofs.Ytlahbmoebbflbaa.Pure
open Go Go.Proofs.Ytlahbmoebbflbaa.Hw Go.Proofs.Ytlahbmoebbflbaa

/-! the keys of a list, as the iterator gives them -/
theorem keys_l (x : ring_Rings) (i : Nat) : ∀ (B : List Nat) (f a : Nat), B.length < f → Lk (nxS x.slots) (pvS x.slots) (a :: (B ++ [i])) → (∀ p ∈ B, p ≠ i ∧ p < x.slots.length) →
    ring_Rings_Keys_1_l0 (i : Int) x f (nxS x.slots a) = some (B.map (ky x.slots)) := by
  intro B
  induction B with
  | nil =>
    intro f a hf hl _
    obtain ⟨f, rfl⟩ : ∃ g, f = g + 1 := ⟨f - 1, by simp at hf; omega⟩
    obtain ⟨h1, _⟩ := hl
    rw [h1]
    unfold ring_Rings_Keys_1_l0
    rw [if_neg (by simp)]; rfl
  | cons p B ih =>
    intro f a hf hl hp
    obtain ⟨f, rfl⟩ : ∃ g, f = g + 1 := ⟨f - 1, by simp at hf; omega⟩
    obtain ⟨h1, _, h3⟩ := hl
    obtain ⟨q1, q2⟩ := hp p (by simp)
    rw [h1]
    unfold ring_Rings_Keys_1_l0
    rw [if_pos (by simp; omega), giN q2, Option.bind_some]
    have := ih f p (by simpa using hf) h3 (fun p hp' => hp p (by simp [hp']))
    rw [show (x.slots.getD p default).next = nxS x.slots p from rfl, this, Option.bind_some]
    rfl
theorem RR.Keys {k m : Nat} {r : ring_Rings} {L : List (List Str)} (h : RR k m r L) {i : Nat} {l : List Str} (hl : L[i]? = some l) : ring_Rings_Keys_1 (some r) (i : Int) = some l := by
  have hi : i < k := by have := h.len; obtain ⟨q, _⟩ := List.getElem?_eq_some_iff.1 hl; omega
  have his := h.is i
  obtain ⟨P, f, h, rfl⟩ := h
  obtain ⟨Q, hQ, rfl⟩ := keys_get hl
  have hlen := h.co.len
  have hrg : ∀ p ∈ Q, p ≠ i ∧ p < r.slots.length := fun p hp => by
    have := h.co.rg p (mem_fl hQ hp); omega
  have hQl : Q.length ≤ P.flatten.length := by
    obtain ⟨U, V, e, _, _⟩ := dec hQ
    rw [e]; simp; omega
  have hct := h.ct
  unfold ring_Rings_Keys_1
  rw [om_some, his, if_neg (by simp [hi]), giN (by omega), Option.bind_some]
  have := keys_l r i Q (ring_kf (some r)) i (by show Q.length < r.slots.length + 1; omega) (h.co.lk i Q hQ) hrg
  rw [show (r.slots.getD i default).next = nxS r.slots i from rfl, this, Option.bind_some]
end Go.Proofs.Ytlahbmoebbflbaa.Pure
