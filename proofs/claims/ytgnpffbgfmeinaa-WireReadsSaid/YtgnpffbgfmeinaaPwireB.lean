import Derived.Test.YtgnpffbgfmeinaaW1
import Derived.Test.YtgnpffbgfmeinaaPwireA
set_option linter.unusedVariables false
set_option linter.unusedSectionVars false
set_option linter.unusedSimpArgs false
set_option maxRecDepth 100000
set_option maxHeartbeats 8000000

namespace Go.Proofs.Ytgnpffbgfmeinaa.Pure
open Go Go.Proofs.Ytgnpffbgfmeinaa.Hw Go.Proofs.Ytgnpffbgfmeinaa

/-! readers: the code's and the document's -/

/-- What the code's reader comes to, as the document tells it: bytes left and the error (0: none). -/
def rel {α : Type} (z : α) (r : (α × wire_Reader) ⊕ (Int × wire_Reader)) (a : hawthornref03_At) (v : α) : Prop :=
  match r with
  | .inl (x, rd) => a = ⟨rd.s, 0⟩ ∧ x = v
  | .inr (n, _) => a.Err = n ∧ n ≠ 0

theorem sl_lo {s : Str} {n : Int} (h0 : 0 ≤ n) (h1 : n ≤ (s.length : Int)) : sl s 0 n = some (s.take n.toNat) := by
  unfold sl
  rw [if_pos ⟨by omega, h0, h1⟩]
  simp
theorem sl_hi {s : Str} {n : Int} (h0 : 0 ≤ n) (h1 : n ≤ (s.length : Int)) : sl s n (s.length : Int) = some (s.drop n.toNat) := by
  unfold sl
  rw [if_pos ⟨h0, h1, by omega⟩, List.take_of_length_le (by simp)]

theorem bytes_rel (s : Str) (n : Int) : ∃ r a v, wire_Reader_Bytes ⟨s⟩ n = some r ∧ hawthornref03_At_Bytes ⟨s, 0⟩ n = some (a, v) ∧ rel [] r a v ∧
    (∀ x rd, r = .inl (x, rd) → 0 ≤ n ∧ x = s.take n.toNat ∧ rd.s = s.drop n.toNat ∧ x.length = n.toNat) := by
  unfold wire_Reader_Bytes hawthornref03_At_Bytes
  by_cases h : n < 0 ∨ (s.length : Int) < n
  · have e : (decide (n < 0) || decide ((s.length : Int) < n)) = true := by simpa using h
    refine ⟨.inr (4, ⟨s⟩), ⟨s, 4⟩, [], ?_, ?_, ⟨rfl, by decide⟩, fun x rd h => by cases h⟩
    · simp only [e, if_true]; rfl
    · simp only [e, Bool.and_true]; rfl
  · have e : (decide (n < 0) || decide ((s.length : Int) < n)) = false := by
      simp only [Bool.or_eq_false_iff, decide_eq_false_iff_not]; omega
    have h0 : 0 ≤ n := by omega
    have h1 : n ≤ (s.length : Int) := by omega
    refine ⟨.inl (s.take n.toNat, ⟨s.drop n.toNat⟩), ⟨s.drop n.toNat, 0⟩, s.take n.toNat, ?_, ?_, ⟨rfl, rfl⟩, fun x rd h => by cases h; exact ⟨h0, rfl, rfl, by simp; omega⟩⟩
    · simp only [e, Bool.false_eq_true, if_false, Option.bind_some]
      rw [sl_lo h0 h1, sl_hi h0 h1]
      rfl
    · simp only [e, Bool.and_false, Bool.false_eq_true, if_false, Option.bind_some]
      rw [sl_lo h0 h1, sl_hi h0 h1]
      rfl

theorem digit_val (n unit : UInt64) (c : UInt8) (j : Nat) (hj : j ≤ 9) (hn : n.toNat < 2 ^ (7 * j)) (hu : unit.toNat = 2 ^ (7 * j)) (h9 : j = 9 → c.toNat ≤ 1) :
    n ||| shWl ((c % 128).toUInt64) (7 * (j : Int)) = n + (c.toUInt64 % 128) * unit ∧ (n + (c.toUInt64 % 128) * unit).toNat = n.toNat + c.toNat % 128 * 2 ^ (7 * j) := by
  have hd : (c % 128).toNat = c.toNat % 128 := by rw [UInt8.toNat_mod]; rfl
  have hd64 : ((c % 128).toUInt64).toNat = c.toNat % 128 := by rw [UInt8.toNat_toUInt64, hd]
  have he64 : (c.toUInt64 % 128).toNat = c.toNat % 128 := by rw [UInt64.toNat_mod, UInt8.toNat_toUInt64]; rfl
  have hcl := c.toNat_lt
  have hm : c.toNat % 128 < 128 := Nat.mod_lt _ (by decide)
  have htop : c.toNat % 128 * 2 ^ (7 * j) + 2 ^ (7 * j) ≤ 2 ^ 64 := by
    by_cases e9 : j = 9
    · have := h9 e9
      subst e9
      have h1 : c.toNat % 128 + 1 ≤ 2 := by have := Nat.mod_le c.toNat 128; omega
      have h2 : (c.toNat % 128 + 1) * 2 ^ (7 * 9) ≤ 2 * 2 ^ (7 * 9) := Nat.mul_le_mul_right _ h1
      rw [Nat.add_mul, Nat.one_mul] at h2
      exact Nat.le_trans h2 (by decide)
    · have h2 : (c.toNat % 128 + 1) * 2 ^ (7 * j) ≤ 128 * 2 ^ (7 * 8) := Nat.mul_le_mul (by omega) (Nat.pow_le_pow_right (by decide) (by omega))
      rw [Nat.add_mul, Nat.one_mul] at h2
      exact Nat.le_trans h2 (by decide)
  have hpos : 0 < 2 ^ (7 * j) := Nat.pow_pos (by decide)
  have hmul : ((c.toUInt64 % 128) * unit).toNat = c.toNat % 128 * 2 ^ (7 * j) := by
    rw [UInt64.toNat_mul, he64, hu, Nat.mod_eq_of_lt (Nat.lt_of_lt_of_le (Nat.lt_add_of_pos_right hpos) htop)]
  have hadd : (n + (c.toUInt64 % 128) * unit).toNat = n.toNat + c.toNat % 128 * 2 ^ (7 * j) := by
    rw [UInt64.toNat_add, hmul, Nat.mod_eq_of_lt (Nat.lt_of_lt_of_le (by rw [Nat.add_comm]; exact Nat.add_lt_add_left hn _) htop)]
  refine ⟨?_, hadd⟩
  apply UInt64.toNat_inj.1
  rw [hadd, UInt64.toNat_or]
  have hmin : min (7 * (j : Int)).toNat 64 = 7 * j := by omega
  have hsh : (shWl ((c % 128).toUInt64) (7 * (j : Int))).toNat = c.toNat % 128 * 2 ^ (7 * j) := by
    unfold shWl
    rw [hmin, hd64, UInt64.toNat_ofNat', Nat.mod_eq_of_lt (Nat.lt_of_lt_of_le (Nat.lt_add_of_pos_right hpos) htop)]
  rw [hsh, Nat.or_comm, Nat.mul_comm, ← Nat.two_pow_add_eq_or_of_lt hn, Nat.add_comm]

/-- The document's outcome, beside the code's. -/
def relN (r : (UInt64 × Str) ⊕ ((UInt64 × wire_Reader) ⊕ (Int × wire_Reader))) (a : (UInt64 × hawthornref03_At) ⊕ (hawthornref03_At × UInt64)) : Prop :=
  match r with
  | .inl (n, s) => a = .inl (n, ⟨s, 0⟩)
  | .inr (.inl _) => False
  | .inr (.inr (e, _)) => ∃ s, a = .inr (⟨s, e⟩, 0) ∧ e ≠ 0

theorem lt1 (c : UInt8) : (decide (1 < c.toUInt64)) = decide (1 < c) := by
  have e1 : (1 : UInt64).toNat = 1 := by decide
  have e2 : (1 : UInt8).toNat = 1 := by decide
  rw [decide_eq_decide, UInt64.lt_iff_toNat_lt, UInt8.lt_iff_toNat_lt, UInt8.toNat_toUInt64, e1, e2]
theorem eq0 (c : UInt8) : (c.toUInt64 == 0) = (c == 0) := by
  have e1 : (0 : UInt64).toNat = 0 := by decide
  have e2 : (0 : UInt8).toNat = 0 := by decide
  rw [Bool.eq_iff_iff, beq_iff_eq, beq_iff_eq, ← UInt64.toNat_inj, ← UInt8.toNat_inj, UInt8.toNat_toUInt64, e1, e2]
theorem lt128 (c : UInt8) : (decide (c.toUInt64 < 128)) = decide (c < 128) := by
  have e1 : (128 : UInt64).toNat = 128 := by decide
  have e2 : (128 : UInt8).toNat = 128 := by decide
  rw [decide_eq_decide, UInt64.lt_iff_toNat_lt, UInt8.lt_iff_toNat_lt, UInt8.toNat_toUInt64, e1, e2]
theorem one_nil : wire_Reader_Bytes ⟨[]⟩ 1 = some (.inr (4, ⟨[]⟩)) ∧ hawthornref03_At_Bytes ⟨[], 0⟩ 1 = some (⟨[], 4⟩, []) := by decide +kernel
theorem one_cons (c : UInt8) (tl : Str) : wire_Reader_Bytes ⟨c :: tl⟩ 1 = some (.inl ([c], ⟨tl⟩)) ∧ hawthornref03_At_Bytes ⟨c :: tl, 0⟩ 1 = some (⟨tl, 0⟩, [c]) := by
  have e1 : (decide ((1 : Int) < 0) || decide (((c :: tl).length : Int) < 1)) = false := by simp; omega
  constructor
  · unfold wire_Reader_Bytes
    simp only [e1, Bool.false_eq_true, if_false, Option.bind_some]
    rw [sl_lo (by omega) (by simp; omega), sl_hi (by omega) (by simp; omega)]
    rfl
  · unfold hawthornref03_At_Bytes
    simp only [e1, Bool.and_false, Bool.false_eq_true, if_false, Option.bind_some]
    rw [sl_lo (by omega) (by simp; omega), sl_hi (by omega) (by simp; omega)]
    rfl
theorem unit_next (unit : UInt64) (j : Nat) (hu : unit.toNat = 2 ^ (7 * j)) (hj9 : j + 1 ≤ 9) : (unit * 128).toNat = 2 ^ (7 * (j + 1)) := by
  have e2 : 2 ^ (7 * (j + 1)) = 2 ^ (7 * j) * 128 := by rw [Nat.mul_add, Nat.pow_add]
  have e3 : 2 ^ (7 * (j + 1)) < 2 ^ 64 := Nat.pow_lt_pow_right (by decide) (by omega)
  have e4 : (128 : UInt64).toNat = 128 := by decide
  rw [UInt64.toNat_mul, hu, e4, ← e2, Nat.mod_eq_of_lt e3]
theorem acc_next (n d j : Nat) (hn : n < 2 ^ (7 * j)) (hm : d < 128) : n + d * 2 ^ (7 * j) < 2 ^ (7 * (j + 1)) := by
  have e2 : 2 ^ (7 * (j + 1)) = 2 ^ (7 * j) * 128 := by rw [Nat.mul_add, Nat.pow_add]
  rw [e2]
  generalize 2 ^ (7 * j) = p at *
  have : (d + 1) * p ≤ 128 * p := Nat.mul_le_mul_right _ (by omega)
  rw [Nat.add_mul] at this
  omega

theorem i7 (j : Nat) (hj : j < 10) : i64 (7 * (j : Int)) = 7 * (j : Int) := i64_id (by omega) (by omega)
theorem i7n (j : Nat) : 0 ≤ 7 * (j : Int) := by omega
theorem ij1 (j : Nat) (hj : j < 10) : i64 ((j : Int) + 1) = ((j + 1 : Nat) : Int) := by rw [i64_id] <;> omega
theorem at9 (c : UInt8) (j : Nat) (hb : ¬ ((((j : Int) == 9) && decide (1 < c)) || (decide (0 < (j : Int)) && (c == 0))) = true) : j = 9 → c.toNat ≤ 1 := fun e9 => by
  subst e9
  have h : ¬ (1 < c) := fun h => hb (by simp [h])
  rw [UInt8.lt_iff_toNat_lt] at h
  have e1 : (1 : UInt8).toNat = 1 := by decide
  omega

theorem num_loop : ∀ (k j : Nat) (n unit : UInt64) (s : Str), k = 10 - j + 1 → j ≤ 10 → (j ≤ 9 → n.toNat < 2 ^ (7 * j) ∧ unit.toNat = 2 ^ (7 * j)) →
    ∃ r a, wire_Reader_Num_l0 k n (j : Int) s = some r ∧ hawthornref03_At_Num_l0 k n unit (j : Int) ⟨s, 0⟩ = some a ∧ relN r a := by
  intro k
  induction k with
  | zero => intro j n unit s h; omega
  | succ k ih =>
    intro j n unit s hk hj hinv
    unfold wire_Reader_Num_l0 hawthornref03_At_Num_l0
    by_cases h10 : j < 10
    · have e : decide ((j : Int) < 10) = true := by simp; omega
      rw [if_pos e, if_pos e]
      have hk1 : k = 10 - (j + 1) + 1 := by omega
      obtain ⟨hn, hu⟩ := hinv (by omega)
      cases s with
      | nil =>
        obtain ⟨h1, h2⟩ := one_nil
        rw [h1, h2]
        exact ⟨_, _, rfl, rfl, [], rfl, by decide⟩
      | cons c tl =>
        obtain ⟨h1, h2⟩ := one_cons c tl
        have hg : gi [c] 0 = some c := rfl
        have c1 := lt1 c
        have c2 := eq0 c
        have c3 := lt128 c
        rw [h1, h2]
        simp only [Option.bind_some, sm, hg, bne_self_eq_false, Bool.false_eq_true, if_false]
        rw [c1, c2, c3]
        by_cases hb : ((((j : Int) == 9) && decide (1 < c)) || (decide (0 < (j : Int)) && (c == 0))) = true
        · rw [if_pos hb, if_pos hb]
          exact ⟨_, _, rfl, rfl, tl, rfl, by decide⟩
        · rw [if_neg hb, if_neg hb, Option.bind_some]
          dsimp only
          have h7 := i7 j h10
          have h9 := at9 c j hb
          have hj9' : j ≤ 9 := Nat.le_of_lt_succ h10
          obtain ⟨v1, v2⟩ := digit_val n unit c j hj9' hn hu h9
          rw [h7, if_pos (i7n j), v1]
          by_cases h128 : decide (c < 128) = true
          · rw [if_pos h128, if_pos h128]
            exact ⟨_, _, rfl, rfl, rfl⟩
          · rw [if_neg h128, if_neg h128]
            rw [ij1 j h10]
            refine ih (j + 1) _ _ tl hk1 h10 (fun hj9 => ⟨?_, ?_⟩)
            · rw [v2]; exact acc_next _ _ _ hn (Nat.mod_lt _ (by decide))
            · exact unit_next unit j hu hj9
    · obtain rfl : j = 10 := by omega
      rw [if_neg (by decide), if_neg (by decide)]
      exact ⟨_, _, rfl, rfl, rfl⟩

/-- A number, by the code and by the document. -/
theorem num_rel (s : Str) (top : UInt64) : ∃ r a v, wire_Reader_Num ⟨s⟩ top = some r ∧ hawthornref03_At_Num ⟨s, 0⟩ top = some (a, v) ∧ rel 0 r a v := by
  obtain ⟨r, a, h1, h2, h3⟩ := num_loop 11 0 0 1 s rfl (by omega) (fun _ => ⟨by decide, by decide⟩)
  unfold wire_Reader_Num hawthornref03_At_Num
  have h1' : wire_Reader_Num_l0 11 0 0 s = some r := h1
  have h2' : hawthornref03_At_Num_l0 11 0 1 0 ⟨s, 0⟩ = some a := h2
  simp only [h1', h2', Option.bind_some]
  rcases r with ⟨n, s'⟩ | q | ⟨e, rd⟩
  · obtain rfl : a = _ := h3
    simp only
    by_cases ht : decide (top < n) = true
    · rw [if_pos ht, if_pos ht]
      exact ⟨_, _, _, rfl, rfl, rfl, by decide⟩
    · rw [if_neg ht, if_neg ht]
      exact ⟨_, _, _, rfl, rfl, rfl, rfl⟩
  · exact h3.elim
  · obtain ⟨s2, rfl, he⟩ := h3
    exact ⟨_, _, _, rfl, rfl, rfl, he⟩
end Go.Proofs.Ytgnpffbgfmeinaa.Pure
