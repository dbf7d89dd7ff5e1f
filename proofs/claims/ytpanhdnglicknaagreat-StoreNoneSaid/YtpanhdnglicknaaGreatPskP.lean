import Derived.Test.YtpanhdnglicknaaGreatW3
import Derived.Test.YtpanhdnglicknaaGreatPskZ
set_option linter.unusedVariables false
set_option linter.unusedSectionVars false
set_option linter.unusedSimpArgs false
set_option maxRecDepth 100000
set_option maxHeartbeats 8000000

namespace Go.Proofs.YtpanhdnglicknaaGreat.Pure
open Go Go.Proofs.YtpanhdnglicknaaGreat.Hw Go.Proofs.YtpanhdnglicknaaGreat

theorem om_some {α β : Type} (a : α) (n : β) (f : α → β) : om (some a) n f = f a := rfl
theorem iand_le (a : Int) (m : Nat) (h : m < 4294967296) : ∃ k : Nat, iand a (m : Int) = (k : Int) ∧ k ≤ m := by
  have e : (BitVec.ofInt 64 (m : Int)).toNat = m := by
    rw [BitVec.toNat_ofInt]; omega
  have h2 : (BitVec.ofInt 64 a &&& BitVec.ofInt 64 (m : Int)).toNat ≤ m := by
    rw [BitVec.toNat_and, e]; exact Nat.and_le_right
  unfold iand
  generalize (BitVec.ofInt 64 a &&& BitVec.ofInt 64 (m : Int)).toNat = k at h2
  exact ⟨k, i64_id (by omega) (by omega), h2⟩
theorem zero_ok (w : Nat) (h1 : 1 ≤ w) : (Sk.mk (List.replicate w 0) (List.replicate w 0) (List.replicate w 0) (List.replicate w 0) (List.replicate w false) 0).ok w := by
  have z : ∀ x ∈ List.replicate w (0 : UInt8), x ≤ 15 := fun x hx => by rw [List.eq_of_mem_replicate hx]; decide
  exact ⟨by simp, by simp, by simp, by simp, by simp, by show 0 < _; omega, z, z, z, z⟩
/-! what stays -/
theorem hf_le (x : UInt8) (h : x ≤ 15) : hf x ≤ 15 := by
  unfold hf
  have e2 : (2 : UInt8).toNat = 2 := by decide
  have e15 : (15 : UInt8).toNat = 15 := by decide
  rw [UInt8.le_iff_toNat_le] at *
  rw [UInt8.toNat_div, e2]; omega
theorem up_le (r : List UInt8) (p : Nat) (m : UInt8) (h : ∀ x ∈ r, x ≤ 15) : ∀ x ∈ up r p m, x ≤ 15 := by
  unfold up
  split
  · rename_i q
    intro x hx
    rcases List.mem_or_eq_of_mem_set hx with h1 | rfl
    · exact h x h1
    · have e1 : (1 : UInt8).toNat = 1 := by decide
      have e15 : (15 : UInt8).toNat = 15 := by decide
      have := UInt8.lt_iff_toNat_lt.1 q.2
      rw [UInt8.le_iff_toNat_le, UInt8.toNat_add]; omega
  · exact h
theorem map_le (r : List UInt8) (h : ∀ x ∈ r, x ≤ 15) : ∀ x ∈ r.map hf, x ≤ 15 := by
  intro x hx
  obtain ⟨y, hy, rfl⟩ := List.mem_map.1 hx
  exact hf_le y (h y hy)
theorem age_ok {w : Nat} {s : Sk} (ha : s.a.length = w) (hb : s.b.length = w) (hc : s.c.length = w) (he : s.e.length = w) (hn : s.n ≤ 10 * w) (h1 : 1 ≤ w)
    (xa : ∀ x ∈ s.a, x ≤ 15) (xb : ∀ x ∈ s.b, x ≤ 15) (xc : ∀ x ∈ s.c, x ≤ 15) (xe : ∀ x ∈ s.e, x ≤ 15) : (s.age w).ok w := by
  refine ⟨?_, ?_, ?_, ?_, ?_, ?_, map_le _ xa, map_le _ xb, map_le _ xc, map_le _ xe⟩
  · show (s.a.map hf).length = w; simp [ha]
  · show (s.b.map hf).length = w; simp [hb]
  · show (s.c.map hf).length = w; simp [hc]
  · show (s.e.map hf).length = w; simp [he]
  · show (List.replicate w false).length = w; simp
  · show s.n / 2 < 10 * w; omega
theorem put_ok {w : Nat} {s : Sk} {p : Ps} (h1 : 1 ≤ w) (hs : s.ok w) : (s.put w p).ok w := by
  obtain ⟨la, lb, lc, le, ld, ln⟩ := add_lens (w := w) hs (p := p)
  have hn := hs.hn
  have xs : (∀ x ∈ (s.add p).a, x ≤ 15) ∧ (∀ x ∈ (s.add p).b, x ≤ 15) ∧ (∀ x ∈ (s.add p).c, x ≤ 15) ∧ (∀ x ∈ (s.add p).e, x ≤ 15) := by
    unfold Sk.add
    split
    · exact ⟨up_le _ _ _ hs.xa, up_le _ _ _ hs.xb, up_le _ _ _ hs.xc, up_le _ _ _ hs.xe⟩
    · exact ⟨hs.xa, hs.xb, hs.xc, hs.xe⟩
  unfold Sk.put
  by_cases h : 10 * w ≤ (s.add p).n
  · rw [if_pos h]
    exact age_ok la lb lc le (by omega) h1 xs.1 xs.2.1 xs.2.2.1 xs.2.2.2
  · rw [if_neg h]
    exact ⟨la, lb, lc, le, ld, by omega, xs.1, xs.2.1, xs.2.2.1, xs.2.2.2⟩
end Go.Proofs.YtpanhdnglicknaaGreat.Pure
