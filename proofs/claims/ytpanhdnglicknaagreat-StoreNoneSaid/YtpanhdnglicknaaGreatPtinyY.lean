import Derived.Test.YtpanhdnglicknaaGreatW3
import Derived.Test.YtpanhdnglicknaaGreatPskZ
import Derived.Test.YtpanhdnglicknaaGreatPskP
import Derived.Test.YtpanhdnglicknaaGreatPringA
import Derived.Test.YtpanhdnglicknaaGreatPringB
import Derived.Test.YtpanhdnglicknaaGreatPringC
import Derived.Test.YtpanhdnglicknaaGreatPringD
import Derived.Test.YtpanhdnglicknaaGreatPringE
import Derived.Test.YtpanhdnglicknaaGreatPringF
import Derived.Test.YtpanhdnglicknaaGreatPtinyZ
import Derived.Test.YtpanhdnglicknaaGreatPtinyB
import Derived.Test.YtpanhdnglicknaaGreatPtinyC
set_option linter.unusedVariables false
set_option linter.unusedSectionVars false
set_option linter.unusedSimpArgs false
set_option maxRecDepth 100000
set_option maxHeartbeats 8000000

namespace Go.Proofs.YtpanhdnglicknaaGreat.Pure
open Go Go.Proofs.YtpanhdnglicknaaGreat.Hw Go.Proofs.YtpanhdnglicknaaGreat

section
variable {n : Nat} {seed : UInt64} {t : tiny_Tiny} {s : Sk} {x : TL}
/-- All three lists. -/
theorem TR.gone (h : TR n seed t s x) {r : ring_Rings} {k : Str} (hR : RR 3 (n + 1) r (x.drop k).L) : TR n seed ⟨t.most, t.s, some r⟩ s (x.drop k) := by
  refine ⟨h.n1, h.n2, h.ms, h.sk, h.ok, ⟨r, rfl, hR⟩, ?_, ?_, ?_⟩
  · have := rm_le x.b k; have := rm_le x.c k; have := h.bb
    show (TL.rm x.b k).length + (TL.rm x.c k).length + _ ≤ n; omega
  · exact Nat.le_trans (rm_le _ _) h.ba
  · exact Nat.le_trans (rm_le _ _) h.bc
theorem TR.Remove (h : TR n seed t s x) (k : Str) : ∃ t', tiny_Tiny_Remove t k = some (decide (k ∈ x.all), t') ∧ TR n seed t' s (x.drop k) := by
  obtain ⟨r, hr, hR⟩ := h.rg
  have := h.n2
  obtain ⟨r', e, hR'⟩ := hR.dropA (by omega) (by omega) k
  unfold tiny_Tiny_Remove
  rw [hr, om_some, e, Option.bind_some]
  refine ⟨_, by rw [fl_all], ?_⟩
  exact h.gone (rmL x k ▸ hR')
/-- Who goes when one must. -/
def evk (x : TL) : Option Str := match x.b.getLast? with | some k => some k | none => match x.a.getLast? with | some k => some k | none => x.c.getLast?
theorem evk_none {x : TL} (h : evk x = none) : x = ⟨[], [], []⟩ := by
  obtain ⟨a, b, c⟩ := x
  unfold evk at h
  dsimp only at h
  cases e : b.getLast? with
  | some k => rw [e] at h; cases h
  | none =>
    rw [e] at h; dsimp only at h
    cases e2 : a.getLast? with
    | some k => rw [e2] at h; cases h
    | none =>
      rw [e2] at h; dsimp only at h
      rw [List.getLast?_eq_none_iff.1 e, List.getLast?_eq_none_iff.1 e2, List.getLast?_eq_none_iff.1 h]
theorem RR.BackA {m : Nat} {r : ring_Rings} {L : List (List Str)} {k : Nat} (h : RR k m r L) {i : Nat} {l : List Str} (hl : L[i]? = some l) : ring_Rings_Back r (i : Int) = some (match l.getLast? with | some k => (k, true) | none => ([], false)) := by
  cases e : l.getLast? with
  | some k =>
    obtain ⟨q, rfl⟩ := List.getLast?_eq_some_iff.1 e
    exact h.Back hl
  | none =>
    rw [List.getLast?_eq_none_iff.1 e] at hl
    exact h.Back0 hl
theorem TR.Evict (h : TR n seed t s x) : ∃ t' x', tiny_Tiny_Evict t = some ((match evk x with | some k => (k, true, t') | none => ([], false, t'))) ∧ TR n seed t' s x' ∧ x' = (match evk x with | some k => x.drop k | none => x) := by
  obtain ⟨r, hr, hR⟩ := h.rg
  have hn := h.n2
  have b0 := hR.BackA (i := 0) (l := x.a) rfl
  have b1 := hR.BackA (i := 1) (l := x.b) rfl
  have b2 := hR.BackA (i := 2) (l := x.c) rfl
  unfold tiny_Tiny_Evict
  rw [h.Len, Option.bind_some]
  by_cases hz : x.n = 0
  · have ha : x.a = [] := List.length_eq_zero_iff.1 (by unfold TL.n at hz; omega)
    have hb : x.b = [] := List.length_eq_zero_iff.1 (by unfold TL.n at hz; omega)
    have hc : x.c = [] := List.length_eq_zero_iff.1 (by unfold TL.n at hz; omega)
    rw [hz, if_pos (by rfl)]
    unfold evk
    rw [ha, hb, hc]
    exact ⟨t, x, rfl, h, rfl⟩
  · rw [if_neg (by simpa using hz), hr, om_some, show ring_Rings_Back r 1 = _ from b1, Option.bind_some, show ring_Rings_Back r 0 = _ from b0, show ring_Rings_Back r 2 = _ from b2]
    have D : ∀ k, ∃ t', ((ring_Rings_Drop r k).bind fun r28 => some (k, true, (⟨t.most, t.s, (some r28.2)⟩ : tiny_Tiny))) = some (k, true, t') ∧ TR n seed t' s (x.drop k) := fun k => by
      obtain ⟨r', e, hR'⟩ := hR.dropA (by omega) (by omega) k
      rw [e, Option.bind_some]
      exact ⟨_, rfl, h.gone (rmL x k ▸ hR')⟩
    unfold evk
    cases e1 : x.b.getLast? with
    | some k =>
      obtain ⟨t', e, q⟩ := D k
      exact ⟨t', _, e, q, rfl⟩
    | none =>
      cases e2 : x.a.getLast? with
      | some k =>
        obtain ⟨t', e, q⟩ := D k
        exact ⟨t', _, e, q, rfl⟩
      | none =>
        cases e3 : x.c.getLast? with
        | some k =>
          obtain ⟨t', e, q⟩ := D k
          exact ⟨t', _, e, q, rfl⟩
        | none =>
          exfalso; apply hz
          rw [show x = ⟨[], [], []⟩ from evk_none (by unfold evk; rw [e1]; dsimp only; rw [e2]; exact e3)]; rfl
end
end Go.Proofs.YtpanhdnglicknaaGreat.Pure
