import Derived.Test.YtgnpffbgfmeinaaW1
import Derived.Test.YtgnpffbgfmeinaaPwireA
import Derived.Test.YtgnpffbgfmeinaaPwireB
import Derived.Test.YtgnpffbgfmeinaaPwireC
set_option linter.unusedVariables false
set_option linter.unusedSectionVars false
set_option linter.unusedSimpArgs false
set_option maxRecDepth 100000
set_option maxHeartbeats 8000000

namespace Go.Proofs.Ytgnpffbgfmeinaa.Pure
open Go Go.Proofs.Ytgnpffbgfmeinaa.Hw Go.Proofs.Ytgnpffbgfmeinaa

/-! what was written is read again -/

theorem pow_split (j : Nat) (hj : j + 1 ≤ 9) : 2 ^ (64 - 7 * j) = 128 * 2 ^ (64 - 7 * (j + 1)) := by
  rw [show 64 - 7 * j = 7 + (64 - 7 * (j + 1)) by omega, Nat.pow_add]

theorem one_round (k j : Nat) (n : UInt64) (c : UInt8) (tl : Str) (hj : j < 10) (hb : ((((j : Int) == 9) && decide (1 < c)) || (decide (0 < (j : Int)) && (c == 0))) = false) :
    wire_Reader_Num_l0 (k + 1) n (j : Int) (c :: tl) = if decide (c < 128) = true then some (.inl (n ||| shWl ((c % 128).toUInt64) (7 * (j : Int)), tl)) else wire_Reader_Num_l0 k (n ||| shWl ((c % 128).toUInt64) (7 * (j : Int))) ((j + 1 : Nat) : Int) tl := by
  conv => lhs; unfold wire_Reader_Num_l0
  have e : decide ((j : Int) < 10) = true := by simp; omega
  rw [if_pos e, (one_cons c tl).1, Option.bind_some]
  dsimp only [sm]
  have hg : gi [c] 0 = some c := rfl
  rw [hg, Option.bind_some, hb, if_neg (by decide), Option.bind_some]
  dsimp only
  rw [i7 j hj, if_pos (i7n j), ij1 j hj]

theorem unit_of (j : Nat) (hj : j ≤ 9) : (UInt64.ofNat (2 ^ (7 * j))).toNat = 2 ^ (7 * j) := by
  rw [UInt64.toNat_ofNat', Nat.mod_eq_of_lt (Nat.pow_lt_pow_right (by decide) (by omega))]
theorem read_last (j v : Nat) (n : UInt64) (rest : Str) (hj : j ≤ 9) (hv : v < 2 ^ (64 - 7 * j)) (hp : 0 < j → 0 < v) (h128 : v < 128) (hn : n.toNat < 2 ^ (7 * j)) (g : Nat) :
    ∃ m, wire_Reader_Num_l0 (10 - j + 1) n (j : Int) (enc (g + 1) v ++ rest) = some (.inl (m, rest)) ∧ m.toNat = n.toNat + v * 2 ^ (7 * j) := by
  have hc : (UInt8.ofNat v).toNat = v := by rw [UInt8.toNat_ofNat']; omega
  have h9 : j = 9 → v ≤ 1 := fun e => by
    subst e
    have : (2 : Nat) ^ (64 - 7 * 9) = 2 := by decide
    omega
  have hb : ((((j : Int) == 9) && decide (1 < UInt8.ofNat v)) || (decide (0 < (j : Int)) && (UInt8.ofNat v == 0))) = false := by
    rw [Bool.or_eq_false_iff]
    constructor
    · by_cases e : j = 9
      · have : ¬ (1 < UInt8.ofNat v) := by
          rw [UInt8.lt_iff_toNat_lt, hc]
          have e0 : (1 : UInt8).toNat = 1 := by decide
          have := h9 e
          omega
        simp [this]
      · have h1 : ((j : Int) == 9) = false := by simp; omega
        rw [h1]; rfl
    · by_cases e : 0 < j
      · have h2 : (UInt8.ofNat v == 0) = false := by
          rw [beq_eq_false_iff_ne]
          intro h
          have := congrArg UInt8.toNat h
          rw [hc] at this
          have e0 : (0 : UInt8).toNat = 0 := by decide
          have := hp e
          omega
        rw [h2, Bool.and_false]
      · have h1 : decide (0 < (j : Int)) = false := by simp; omega
        rw [h1]; rfl
  have e : enc (g + 1) v ++ rest = UInt8.ofNat v :: rest := by
    unfold enc
    rw [if_pos h128]; rfl
  obtain ⟨v1, v2⟩ := digit_val n (UInt64.ofNat (2 ^ (7 * j))) (UInt8.ofNat v) j hj hn (unit_of j hj) (fun h => by rw [hc]; exact h9 h)
  rw [hc, Nat.mod_eq_of_lt h128] at v2
  have hlt : decide (UInt8.ofNat v < 128) = true := by
    rw [decide_eq_true_iff, UInt8.lt_iff_toNat_lt, hc]
    have e0 : (128 : UInt8).toNat = 128 := by decide
    omega
  rw [e, one_round (10 - j) j n _ _ (by omega) hb, if_pos hlt, v1]
  exact ⟨_, rfl, v2⟩

theorem read_loop : ∀ (g j v : Nat) (n : UInt64) (rest : Str), j ≤ 9 → v < 2 ^ (64 - 7 * j) → (0 < j → 0 < v) → v < 128 ^ (g + 1) → n.toNat < 2 ^ (7 * j) →
    ∃ m, wire_Reader_Num_l0 (10 - j + 1) n (j : Int) (enc (g + 1) v ++ rest) = some (.inl (m, rest)) ∧ m.toNat = n.toNat + v * 2 ^ (7 * j) := by
  intro g
  induction g with
  | zero =>
    intro j v n rest hj hv hp hg hn
    have h128 : v < 128 := by simpa using hg
    exact read_last j v n rest hj hv hp h128 hn 0
  | succ g ih =>
    intro j v n rest hj hv hp hg hn
    by_cases h128 : v < 128
    · exact read_last j v n rest hj hv hp h128 hn (g + 1)
    · have hj9 : j + 1 ≤ 9 := by
        rcases Nat.lt_or_ge j 9 with h | h
        · exact h
        · obtain rfl : j = 9 := by omega
          have : (2 : Nat) ^ (64 - 7 * 9) = 2 := by decide
          omega
      have hc : (UInt8.ofNat (v % 128 + 128)).toNat = v % 128 + 128 := by rw [UInt8.toNat_ofNat']; omega
      have hb : ((((j : Int) == 9) && decide (1 < UInt8.ofNat (v % 128 + 128))) || (decide (0 < (j : Int)) && (UInt8.ofNat (v % 128 + 128) == 0))) = false := by
        have h1 : ((j : Int) == 9) = false := by simp; omega
        have h2 : (UInt8.ofNat (v % 128 + 128) == 0) = false := by
          rw [beq_eq_false_iff_ne]
          intro h
          have := congrArg UInt8.toNat h
          rw [hc] at this
          have e0 : (0 : UInt8).toNat = 0 := by decide
          omega
        rw [h1, h2]; simp
      have e : enc (g + 1 + 1) v ++ rest = UInt8.ofNat (v % 128 + 128) :: (enc (g + 1) (v / 128) ++ rest) := by
        conv => lhs; unfold enc
        rw [if_neg h128]; rfl
      have ek : 10 - j = 10 - (j + 1) + 1 := by omega
      obtain ⟨v1, v2⟩ := digit_val n (UInt64.ofNat (2 ^ (7 * j))) (UInt8.ofNat (v % 128 + 128)) j hj hn (unit_of j hj) (fun h => absurd h (by omega))
      rw [hc] at v2
      have hmod : (v % 128 + 128) % 128 = v % 128 := by omega
      rw [hmod] at v2
      have hlt : ¬ decide (UInt8.ofNat (v % 128 + 128) < 128) = true := by
        rw [decide_eq_true_iff, UInt8.lt_iff_toNat_lt, hc]
        have e0 : (128 : UInt8).toNat = 128 := by decide
        omega
      rw [e, one_round (10 - j) j n _ _ (by omega) hb, if_neg hlt, v1]
      have hn' := acc_next n.toNat (v % 128) j hn (Nat.mod_lt _ (by decide))
      rw [← v2] at hn'
      have hpow := pow_split j hj9
      have hdiv : v / 128 < 2 ^ (64 - 7 * (j + 1)) := Nat.div_lt_of_lt_mul (by rw [← hpow]; exact hv)
      have hg' : v / 128 < 128 ^ (g + 1) := Nat.div_lt_of_lt_mul (by rw [Nat.mul_comm, ← Nat.pow_succ]; exact hg)
      obtain ⟨m, h1, h2⟩ := ih (j + 1) (v / 128) _ rest hj9 hdiv (fun _ => by omega) hg' hn'
      rw [ek]
      refine ⟨m, h1, ?_⟩
      rw [h2, v2]
      have e2 : 2 ^ (7 * (j + 1)) = 2 ^ (7 * j) * 128 := by rw [Nat.mul_add, Nat.pow_add]
      rw [e2, Nat.add_assoc]
      congr 1
      have hv' := Nat.div_add_mod v 128
      generalize 2 ^ (7 * j) = p
      calc v % 128 * p + v / 128 * (p * 128) = (128 * (v / 128) + v % 128) * p := by rw [Nat.add_mul, Nat.mul_comm p 128, ← Nat.mul_assoc, Nat.mul_comm (v / 128) 128, Nat.add_comm]
        _ = v * p := by rw [hv']
end Go.Proofs.Ytgnpffbgfmeinaa.Pure
