import Derived.Test.YtlahbmoebbflbaaW4
import Derived.Test.YtlahbmoebbflbaaPmixA
import Derived.Test.YtlahbmoebbflbaaPskA
import Derived.Test.YtlahbmoebbflbaaPskB
import Derived.Test.YtlahbmoebbflbaaPskC
import Derived.Test.YtlahbmoebbflbaaPskF
import Derived.Test.YtlahbmoebbflbaaPskN
import Derived.Test.YtlahbmoebbflbaaPskD
import Derived.Test.YtlahbmoebbflbaaPwireC
import Derived.Test.YtlahbmoebbflbaaPskE
import Derived.Test.YtlahbmoebbflbaaPskG
set_option linter.unusedVariables false
set_option linter.unusedSectionVars false
set_option linter.unusedSimpArgs false
set_option maxRecDepth 100000
set_option maxHeartbeats 8000000

namespace Go.Proofs.Ytlahbmoebbflbaa.Pure
open Go Go.Proofs.Ytlahbmoebbflbaa.Hw Go.Proofs.Ytlahbmoebbflbaa

/-! what was written is read again: the code's reader alone -/
theorem sl_lo {s : Str} {n : Int} (h0 : 0 ≤ n) (h1 : n ≤ (s.length : Int)) : sl s 0 n = some (s.take n.toNat) := by
  unfold sl
  rw [if_pos ⟨by omega, h0, h1⟩]
  simp
theorem sl_hi {s : Str} {n : Int} (h0 : 0 ≤ n) (h1 : n ≤ (s.length : Int)) : sl s n (s.length : Int) = some (s.drop n.toNat) := by
  unfold sl
  rw [if_pos ⟨h0, h1, by omega⟩, List.take_of_length_le (by simp)]

theorem digit_val (n unit : UInt64) (c : UInt8) (j : Nat) (hj : j ≤ 9) (hn : n.toNat < 2 ^ (7 * j)) (hu : unit.toNat = 2 ^ (7 * j)) (h9 : j = 9 → c.toNat ≤ 1) :
    n ||| shWl ((c % 128).toUInt64) (7 * (j : Int)) = n + (c.toUInt64 % 128) * unit ∧ (n + (c.toUInt64 % 128) * unit).toNat = n.toNat + c.toNat % 128 * 2 ^ (7 * j) := by
  have hd : (c % 128).toNat = c.toNat % 128 := by rw [UInt8.toNat_mod]; rfl
  have hd64 : ((c % 128).toUInt64).toNat = c.toNat % 128 := by rw [UInt8.toNat_toUInt64, hd]
  have he64 : (c.toUInt64 % 128).toNat = c.toNat % 128 := by rw [UInt64.toNat_mod, UInt8.toNat_toUInt64]; rfl
  have hcl := c.toNat_lt
  have hm : c.toNat % 128 < 128 := Nat.mod_lt _ (by decide)
  have htop : c.toNat % 128 * 2 ^ (7 * j) + 2 ^ (7 * j) ≤ 2 ^ 64 := by
    by_cases e9 : j = 9
    · have := h9 e9
      subst e9
      have h1 : c.toNat % 128 + 1 ≤ 2 := by have := Nat.mod_le c.toNat 128; omega
      have h2 : (c.toNat % 128 + 1) * 2 ^ (7 * 9) ≤ 2 * 2 ^ (7 * 9) := Nat.mul_le_mul_right _ h1
      rw [Nat.add_mul, Nat.one_mul] at h2
      exact Nat.le_trans h2 (by decide)
    · have h2 : (c.toNat % 128 + 1) * 2 ^ (7 * j) ≤ 128 * 2 ^ (7 * 8) := Nat.mul_le_mul (by omega) (Nat.pow_le_pow_right (by decide) (by omega))
      rw [Nat.add_mul, Nat.one_mul] at h2
      exact Nat.le_trans h2 (by decide)
  have hpos : 0 < 2 ^ (7 * j) := Nat.pow_pos (by decide)
  have hmul : ((c.toUInt64 % 128) * unit).toNat = c.toNat % 128 * 2 ^ (7 * j) := by
    rw [UInt64.toNat_mul, he64, hu, Nat.mod_eq_of_lt (Nat.lt_of_lt_of_le (Nat.lt_add_of_pos_right hpos) htop)]
  have hadd : (n + (c.toUInt64 % 128) * unit).toNat = n.toNat + c.toNat % 128 * 2 ^ (7 * j) := by
    rw [UInt64.toNat_add, hmul, Nat.mod_eq_of_lt (Nat.lt_of_lt_of_le (by rw [Nat.add_comm]; exact Nat.add_lt_add_left hn _) htop)]
  refine ⟨?_, hadd⟩
  apply UInt64.toNat_inj.1
  rw [hadd, UInt64.toNat_or]
  have hmin : min (7 * (j : Int)).toNat 64 = 7 * j := by omega
  have hsh : (shWl ((c % 128).toUInt64) (7 * (j : Int))).toNat = c.toNat % 128 * 2 ^ (7 * j) := by
    unfold shWl
    rw [hmin, hd64, UInt64.toNat_ofNat', Nat.mod_eq_of_lt (Nat.lt_of_lt_of_le (Nat.lt_add_of_pos_right hpos) htop)]
  rw [hsh, Nat.or_comm, Nat.mul_comm, ← Nat.two_pow_add_eq_or_of_lt hn, Nat.add_comm]

theorem one_cons (c : UInt8) (tl : Str) : wire_Reader_Bytes ⟨c :: tl⟩ 1 = some (.inl ([c], ⟨tl⟩)) := by
  have e1 : (decide ((1 : Int) < 0) || decide (((c :: tl).length : Int) < 1)) = false := by simp; omega
  unfold wire_Reader_Bytes
  simp only [e1, Bool.false_eq_true, if_false, Option.bind_some]
  rw [sl_lo (by omega) (by simp; omega), sl_hi (by omega) (by simp; omega)]
  rfl
theorem unit_next (unit : UInt64) (j : Nat) (hu : unit.toNat = 2 ^ (7 * j)) (hj9 : j + 1 ≤ 9) : (unit * 128).toNat = 2 ^ (7 * (j + 1)) := by
  have e2 : 2 ^ (7 * (j + 1)) = 2 ^ (7 * j) * 128 := by rw [Nat.mul_add, Nat.pow_add]
  have e3 : 2 ^ (7 * (j + 1)) < 2 ^ 64 := Nat.pow_lt_pow_right (by decide) (by omega)
  have e4 : (128 : UInt64).toNat = 128 := by decide
  rw [UInt64.toNat_mul, hu, e4, ← e2, Nat.mod_eq_of_lt e3]
theorem acc_next (n d j : Nat) (hn : n < 2 ^ (7 * j)) (hm : d < 128) : n + d * 2 ^ (7 * j) < 2 ^ (7 * (j + 1)) := by
  have e2 : 2 ^ (7 * (j + 1)) = 2 ^ (7 * j) * 128 := by rw [Nat.mul_add, Nat.pow_add]
  rw [e2]
  generalize 2 ^ (7 * j) = p at *
  have : (d + 1) * p ≤ 128 * p := Nat.mul_le_mul_right _ (by omega)
  rw [Nat.add_mul] at this
  omega

theorem i7 (j : Nat) (hj : j < 10) : i64 (7 * (j : Int)) = 7 * (j : Int) := i64_id (by omega) (by omega)
theorem i7n (j : Nat) : 0 ≤ 7 * (j : Int) := by omega
theorem ij1 (j : Nat) (hj : j < 10) : i64 ((j : Int) + 1) = ((j + 1 : Nat) : Int) := by rw [i64_id] <;> omega
theorem pow_split (j : Nat) (hj : j + 1 ≤ 9) : 2 ^ (64 - 7 * j) = 128 * 2 ^ (64 - 7 * (j + 1)) := by
  rw [show 64 - 7 * j = 7 + (64 - 7 * (j + 1)) by omega, Nat.pow_add]

theorem one_round (k j : Nat) (n : UInt64) (c : UInt8) (tl : Str) (hj : j < 10) (hb : ((((j : Int) == 9) && decide (1 < c)) || (decide (0 < (j : Int)) && (c == 0))) = false) :
    wire_Reader_Num_l1 (k + 1) n (j : Int) (c :: tl) = if decide (c < 128) = true then some (.inl (n ||| shWl ((c % 128).toUInt64) (7 * (j : Int)), tl)) else wire_Reader_Num_l1 k (n ||| shWl ((c % 128).toUInt64) (7 * (j : Int))) ((j + 1 : Nat) : Int) tl := by
  conv => lhs; unfold wire_Reader_Num_l1
  have e : decide ((j : Int) < 10) = true := by simp; omega
  rw [if_pos e, one_cons c tl, Option.bind_some]
  dsimp only [sm]
  have hg : gi [c] 0 = some c := rfl
  rw [hg, Option.bind_some, hb, if_neg (by decide), Option.bind_some]
  dsimp only
  rw [i7 j hj, if_pos (i7n j), ij1 j hj]

theorem unit_of (j : Nat) (hj : j ≤ 9) : (UInt64.ofNat (2 ^ (7 * j))).toNat = 2 ^ (7 * j) := by
  rw [UInt64.toNat_ofNat', Nat.mod_eq_of_lt (Nat.pow_lt_pow_right (by decide) (by omega))]
theorem read_last (j v : Nat) (n : UInt64) (rest : Str) (hj : j ≤ 9) (hv : v < 2 ^ (64 - 7 * j)) (hp : 0 < j → 0 < v) (h128 : v < 128) (hn : n.toNat < 2 ^ (7 * j)) (g : Nat) :
    ∃ m, wire_Reader_Num_l1 (10 - j + 1) n (j : Int) (enc (g + 1) v ++ rest) = some (.inl (m, rest)) ∧ m.toNat = n.toNat + v * 2 ^ (7 * j) := by
  have hc : (UInt8.ofNat v).toNat = v := by rw [UInt8.toNat_ofNat']; omega
  have h9 : j = 9 → v ≤ 1 := fun e => by
    subst e
    have : (2 : Nat) ^ (64 - 7 * 9) = 2 := by decide
    omega
  have hb : ((((j : Int) == 9) && decide (1 < UInt8.ofNat v)) || (decide (0 < (j : Int)) && (UInt8.ofNat v == 0))) = false := by
    rw [Bool.or_eq_false_iff]
    constructor
    · by_cases e : j = 9
      · have : ¬ (1 < UInt8.ofNat v) := by
          rw [UInt8.lt_iff_toNat_lt, hc]
          have e0 : (1 : UInt8).toNat = 1 := by decide
          have := h9 e
          omega
        simp [this]
      · have h1 : ((j : Int) == 9) = false := by simp; omega
        rw [h1]; rfl
    · by_cases e : 0 < j
      · have h2 : (UInt8.ofNat v == 0) = false := by
          rw [beq_eq_false_iff_ne]
          intro h
          have := congrArg UInt8.toNat h
          rw [hc] at this
          have e0 : (0 : UInt8).toNat = 0 := by decide
          have := hp e
          omega
        rw [h2, Bool.and_false]
      · have h1 : decide (0 < (j : Int)) = false := by simp; omega
        rw [h1]; rfl
  have e : enc (g + 1) v ++ rest = UInt8.ofNat v :: rest := by
    unfold enc
    rw [if_pos h128]; rfl
  obtain ⟨v1, v2⟩ := digit_val n (UInt64.ofNat (2 ^ (7 * j))) (UInt8.ofNat v) j hj hn (unit_of j hj) (fun h => by rw [hc]; exact h9 h)
  rw [hc, Nat.mod_eq_of_lt h128] at v2
  have hlt : decide (UInt8.ofNat v < 128) = true := by
    rw [decide_eq_true_iff, UInt8.lt_iff_toNat_lt, hc]
    have e0 : (128 : UInt8).toNat = 128 := by decide
    omega
  rw [e, one_round (10 - j) j n _ _ (by omega) hb, if_pos hlt, v1]
  exact ⟨_, rfl, v2⟩

theorem read_loop : ∀ (g j v : Nat) (n : UInt64) (rest : Str), j ≤ 9 → v < 2 ^ (64 - 7 * j) → (0 < j → 0 < v) → v < 128 ^ (g + 1) → n.toNat < 2 ^ (7 * j) →
    ∃ m, wire_Reader_Num_l1 (10 - j + 1) n (j : Int) (enc (g + 1) v ++ rest) = some (.inl (m, rest)) ∧ m.toNat = n.toNat + v * 2 ^ (7 * j) := by
  intro g
  induction g with
  | zero =>
    intro j v n rest hj hv hp hg hn
    have h128 : v < 128 := by simpa using hg
    exact read_last j v n rest hj hv hp h128 hn 0
  | succ g ih =>
    intro j v n rest hj hv hp hg hn
    by_cases h128 : v < 128
    · exact read_last j v n rest hj hv hp h128 hn (g + 1)
    · have hj9 : j + 1 ≤ 9 := by
        rcases Nat.lt_or_ge j 9 with h | h
        · exact h
        · obtain rfl : j = 9 := by omega
          have : (2 : Nat) ^ (64 - 7 * 9) = 2 := by decide
          omega
      have hc : (UInt8.ofNat (v % 128 + 128)).toNat = v % 128 + 128 := by rw [UInt8.toNat_ofNat']; omega
      have hb : ((((j : Int) == 9) && decide (1 < UInt8.ofNat (v % 128 + 128))) || (decide (0 < (j : Int)) && (UInt8.ofNat (v % 128 + 128) == 0))) = false := by
        have h1 : ((j : Int) == 9) = false := by simp; omega
        have h2 : (UInt8.ofNat (v % 128 + 128) == 0) = false := by
          rw [beq_eq_false_iff_ne]
          intro h
          have := congrArg UInt8.toNat h
          rw [hc] at this
          have e0 : (0 : UInt8).toNat = 0 := by decide
          omega
        rw [h1, h2]; simp
      have e : enc (g + 1 + 1) v ++ rest = UInt8.ofNat (v % 128 + 128) :: (enc (g + 1) (v / 128) ++ rest) := by
        conv => lhs; unfold enc
        rw [if_neg h128]; rfl
      have ek : 10 - j = 10 - (j + 1) + 1 := by omega
      obtain ⟨v1, v2⟩ := digit_val n (UInt64.ofNat (2 ^ (7 * j))) (UInt8.ofNat (v % 128 + 128)) j hj hn (unit_of j hj) (fun h => absurd h (by omega))
      rw [hc] at v2
      have hmod : (v % 128 + 128) % 128 = v % 128 := by omega
      rw [hmod] at v2
      have hlt : ¬ decide (UInt8.ofNat (v % 128 + 128) < 128) = true := by
        rw [decide_eq_true_iff, UInt8.lt_iff_toNat_lt, hc]
        have e0 : (128 : UInt8).toNat = 128 := by decide
        omega
      rw [e, one_round (10 - j) j n _ _ (by omega) hb, if_neg hlt, v1]
      have hn' := acc_next n.toNat (v % 128) j hn (Nat.mod_lt _ (by decide))
      rw [← v2] at hn'
      have hpow := pow_split j hj9
      have hdiv : v / 128 < 2 ^ (64 - 7 * (j + 1)) := Nat.div_lt_of_lt_mul (by rw [← hpow]; exact hv)
      have hg' : v / 128 < 128 ^ (g + 1) := Nat.div_lt_of_lt_mul (by rw [Nat.mul_comm, ← Nat.pow_succ]; exact hg)
      obtain ⟨m, h1, h2⟩ := ih (j + 1) (v / 128) _ rest hj9 hdiv (fun _ => by omega) hg' hn'
      rw [ek]
      refine ⟨m, h1, ?_⟩
      rw [h2, v2]
      have e2 : 2 ^ (7 * (j + 1)) = 2 ^ (7 * j) * 128 := by rw [Nat.mul_add, Nat.pow_add]
      rw [e2, Nat.add_assoc]
      congr 1
      have hv' := Nat.div_add_mod v 128
      generalize 2 ^ (7 * j) = p
      calc v % 128 * p + v / 128 * (p * 128) = (128 * (v / 128) + v % 128) * p := by rw [Nat.add_mul, Nat.mul_comm p 128, ← Nat.mul_assoc, Nat.mul_comm (v / 128) 128, Nat.add_comm]
        _ = v * p := by rw [hv']

theorem num_back (n top : UInt64) (rest : Str) (h : n ≤ top) : wire_Reader_Num ⟨enc 11 n.toNat ++ rest⟩ top = some (.inl (n, ⟨rest⟩)) := by
  have hn : n.toNat < 2 ^ 64 := n.toNat_lt
  obtain ⟨m, h1, h2⟩ := read_loop 10 0 n.toNat 0 rest (by omega) hn (by omega) (Nat.lt_of_lt_of_le hn (by decide)) (by decide)
  have e : m = n := by
    apply UInt64.toNat_inj.1
    have e0 : (0 : UInt64).toNat = 0 := by decide
    rw [h2, e0]; simp
  subst e
  have h1' : wire_Reader_Num_l1 11 0 0 (enc 11 m.toNat ++ rest) = some (.inl (m, rest)) := h1
  unfold wire_Reader_Num
  dsimp only
  rw [h1', Option.bind_some]
  dsimp only
  rw [if_neg]
  rw [decide_eq_true_eq, UInt64.lt_iff_toNat_lt]
  have := UInt64.le_iff_toNat_le.1 h
  omega
theorem bytes_back (a rest : Str) (k : Int) (hk : k = (a.length : Int)) : wire_Reader_Bytes ⟨a ++ rest⟩ k = some (.inl (a, ⟨rest⟩)) := by
  subst hk
  have e1 : (decide ((a.length : Int) < 0) || decide (((a ++ rest).length : Int) < (a.length : Int))) = false := by simp; omega
  unfold wire_Reader_Bytes
  simp only [e1, Bool.false_eq_true, if_false, Option.bind_some]
  rw [sl_lo (by omega) (by simp; omega), sl_hi (by omega) (by simp; omega)]
  simp
theorem must_t (s : wire_Reader) : wire_Reader_Must s true = .inl () := by unfold wire_Reader_Must; rfl
theorem flag_back (b : Bool) (rest : Str) : wire_Reader_Flag ⟨(if b then 1 else 0) :: rest⟩ = some (.inl (b, ⟨rest⟩)) := by
  unfold wire_Reader_Flag
  rw [one_cons, Option.bind_some]
  cases b <;> rfl
end Go.Proofs.Ytlahbmoebbflbaa.Pure
