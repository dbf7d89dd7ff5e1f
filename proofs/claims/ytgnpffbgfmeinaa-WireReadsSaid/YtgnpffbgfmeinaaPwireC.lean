import Derived.Test.YtgnpffbgfmeinaaW1
import Derived.Test.YtgnpffbgfmeinaaPwireA
import Derived.Test.YtgnpffbgfmeinaaPwireB
set_option linter.unusedVariables false
set_option linter.unusedSectionVars false
set_option linter.unusedSimpArgs false
set_option maxRecDepth 100000
set_option maxHeartbeats 8000000

namespace Go.Proofs.Ytgnpffbgfmeinaa.Pure
open Go Go.Proofs.Ytgnpffbgfmeinaa.Hw Go.Proofs.Ytgnpffbgfmeinaa

/-! numbers as bytes -/

def enc : Nat → Nat → Str
  | 0, _ => []
  | f + 1, n => if n < 128 then [UInt8.ofNat n] else UInt8.ofNat (n % 128 + 128) :: enc f (n / 128)
theorem enc_len : ∀ (f n : Nat), (enc f n).length ≤ f
  | 0, _ => by simp [enc]
  | f + 1, n => by
    have := enc_len f (n / 128)
    unfold enc
    split <;> simp <;> omega
theorem byte_hi (n : UInt64) : ((n % 128).toUInt8) + 128 = UInt8.ofNat (n.toNat % 128 + 128) := by
  apply UInt8.toNat_inj.1
  have e : (128 : UInt8).toNat = 128 := by decide
  have e2 : (128 : UInt64).toNat = 128 := by decide
  rw [UInt8.toNat_add, UInt64.toNat_toUInt8, UInt64.toNat_mod, UInt8.toNat_ofNat', e, e2]
  omega
theorem byte_hi' (n : UInt64) : (128 + (n % 128)).toUInt8 = UInt8.ofNat (n.toNat % 128 + 128) := by
  apply UInt8.toNat_inj.1
  have e2 : (128 : UInt64).toNat = 128 := by decide
  rw [UInt64.toNat_toUInt8, UInt64.toNat_add, UInt64.toNat_mod, UInt8.toNat_ofNat', e2]
  omega
theorem byte_lo (n : UInt64) : n.toUInt8 = UInt8.ofNat n.toNat := by
  apply UInt8.toNat_inj.1
  rw [UInt64.toNat_toUInt8, UInt8.toNat_ofNat']
theorem div128 (n : UInt64) : (n / 128).toNat = n.toNat / 128 := by
  have e2 : (128 : UInt64).toNat = 128 := by decide
  rw [UInt64.toNat_div, e2]
theorem ge128 (n : UInt64) : (decide (128 ≤ n)) = decide (128 ≤ n.toNat) := by
  have e2 : (128 : UInt64).toNat = 128 := by decide
  rw [decide_eq_decide, UInt64.le_iff_toNat_le, e2]
theorem gt127 (n : UInt64) : (decide (127 < n)) = decide (128 ≤ n.toNat) := by
  have e2 : (127 : UInt64).toNat = 127 := by decide
  rw [decide_eq_decide, UInt64.lt_iff_toNat_lt, e2]
  exact Iff.rfl

theorem wnum_loop : ∀ (f : Nat) (n : UInt64) (c : Str), n.toNat < 128 ^ (f + 1) → c.length + f ≤ 1000 →
    ∃ m c', wire_Num_l0 (f + 1) n c = some (m, c') ∧ hawthornref03_Num_l0 (f + 1) n c = some (m, c') ∧ c' ++ [UInt8.ofNat m.toNat] = c ++ enc (f + 1) n.toNat ∧ c'.length ≤ c.length + f := by
  intro f
  induction f with
  | zero =>
    intro n c hn hl
    have h : ¬ 128 ≤ n.toNat := by simpa using hn
    have e : decide (128 ≤ n.toNat) = false := by simpa using h
    refine ⟨n, c, ?_, ?_, ?_, by omega⟩
    · unfold wire_Num_l0; rw [ge128, e]; rfl
    · unfold hawthornref03_Num_l0; rw [gt127, e]; rfl
    · unfold enc; rw [if_pos (by omega)]
  | succ f ih =>
    intro n c hn hl
    by_cases h : 128 ≤ n.toNat
    · have e : decide (128 ≤ n.toNat) = true := by simpa using h
      have hd : (n / 128).toNat < 128 ^ (f + 1) := by
        rw [div128]
        rw [Nat.pow_succ] at hn
        exact Nat.div_lt_of_lt_mul (by rw [Nat.mul_comm]; exact hn)
      obtain ⟨m, c', h1, h2, h3, h4⟩ := ih (n / 128) (c ++ [UInt8.ofNat (n.toNat % 128 + 128)]) hd (by simp; omega)
      refine ⟨m, c', ?_, ?_, ?_, by simp at h4; omega⟩
      · unfold wire_Num_l0
        rw [ge128, e, if_pos rfl, byte_hi]
        have ha : apd 1 c [UInt8.ofNat (n.toNat % 128 + 128)] = some (c ++ [UInt8.ofNat (n.toNat % 128 + 128)]) := by
          unfold apd
          rw [if_pos (by simp; omega)]
        rw [ha, Option.bind_some]
        exact h1
      · unfold hawthornref03_Num_l0
        rw [gt127, e, if_pos rfl, byte_hi', if_pos (by simp [maxS]; omega)]
        exact h2
      · rw [h3, div128]
        conv => rhs; unfold enc
        rw [if_neg (by omega)]
        simp
    · have e : decide (128 ≤ n.toNat) = false := by simpa using h
      refine ⟨n, c, ?_, ?_, ?_, by omega⟩
      · unfold wire_Num_l0; rw [ge128, e]; rfl
      · unfold hawthornref03_Num_l0; rw [gt127, e]; rfl
      · unfold enc; rw [if_pos (by omega)]

/-- A number's bytes, by the code and by the document. -/
theorem num_enc (n : UInt64) : wire_Num n = some (enc 11 n.toNat) ∧ hawthornref03_Num n = some (enc 11 n.toNat) := by
  have hn : n.toNat < 128 ^ (10 + 1) := Nat.lt_of_lt_of_le n.toNat_lt (by decide)
  obtain ⟨m, c', h1, h2, h3, h4⟩ := wnum_loop 10 n [] hn (by simp)
  rw [List.nil_append] at h3
  constructor
  · unfold wire_Num
    have h1' : wire_Num_l0 11 n [] = some (m, c') := h1
    rw [h1', Option.bind_some]
    dsimp only
    rw [byte_lo]
    have ha : apd 1 c' [UInt8.ofNat m.toNat] = some (c' ++ [UInt8.ofNat m.toNat]) := by
      unfold apd
      rw [if_pos (by simp at h4 ⊢; omega)]
    rw [ha, Option.bind_some, h3]
  · unfold hawthornref03_Num
    have h2' : hawthornref03_Num_l0 11 n [] = some (m, c') := h2
    rw [h2', Option.bind_some]
    dsimp only
    rw [byte_lo, if_pos (by simp [maxS] at h4 ⊢; omega), h3]
end Go.Proofs.Ytgnpffbgfmeinaa.Pure
