import Derived.Test.YtgnpffbgfmeinaaW1
set_option linter.unusedVariables false
set_option linter.unusedSectionVars false
set_option linter.unusedSimpArgs false
set_option maxRecDepth 100000
set_option maxHeartbeats 8000000

namespace Go.Proofs.Ytgnpffbgfmeinaa.Pure
open Go Go.Proofs.Ytgnpffbgfmeinaa.Hw Go.Proofs.Ytgnpffbgfmeinaa

theorem awake_true : hawthornlaw03_awake = some true := by decide +kernel

theorem gi_lt {α : Type} {l : List α} {i : Int} (h0 : 0 ≤ i) (h1 : i < (l.length : Int)) : ∃ x, gi l i = some x := by
  unfold gi
  rw [if_pos h0]
  exact ⟨_, List.getElem?_eq_getElem (by omega)⟩
theorem step_ok {i n : Int} (h0 : 0 ≤ i) (h1 : i < n) (h2 : n ≤ 9223372036854775807) : i64 (i + 1) = i + 1 := i64_id (by omega) (by omega)

/-! the check -/

theorem sh1 (a : UInt32) : shDr a ((1 : UInt64).toNat : Int) = a >>> (1 : UInt32) := by
  apply UInt32.toNat_inj.1
  have h : a.toNat / 2 ^ 1 < 2 ^ 32 := Nat.lt_of_le_of_lt (Nat.div_le_self _ _) a.toNat_lt
  have e : min ((1 : UInt64).toNat : Int).toNat 32 = 1 := by decide
  unfold shDr
  rw [e, UInt32.toNat_ofNat', Nat.mod_eq_of_lt h, UInt32.toNat_shiftRight]
  simp [Nat.shiftRight_eq_div_pow]
theorem half (a : UInt32) : a / (2 : UInt32) = a >>> (1 : UInt32) := by
  apply UInt32.toNat_inj.1
  rw [UInt32.toNat_div, UInt32.toNat_shiftRight]
  simp [Nat.shiftRight_eq_div_pow]
theorem xsr (a b : UInt32) : (a ^^^ b) >>> (1 : UInt32) = (a >>> (1 : UInt32)) ^^^ (b >>> (1 : UInt32)) := by
  apply UInt32.toBitVec_inj.1
  simp [BitVec.ushiftRight_xor_distrib]
/-- One bit: what the code's register is beside the document's. -/
def bitStep (r : UInt32) : UInt32 := if ((r &&& 1) == 1) = true then (r >>> (1 : UInt32)) ^^^ 3945912366 else r >>> (1 : UInt32)
def refStep (c : UInt8) (k : Nat) (r : UInt32) : UInt32 := if (((r &&& 1) ^^^ (((shYr c (k : Int)).toUInt32) &&& 1)) == 1) = true then (r >>> (1 : UInt32)) ^^^ 3945912366 else r >>> (1 : UInt32)

theorem and_one_xor (a b : UInt32) : (a ^^^ b) &&& 1 = (a &&& 1) ^^^ (b &&& 1) := by
  apply UInt32.toBitVec_inj.1
  apply BitVec.eq_of_getLsbD_eq
  intro i hi
  simp only [UInt32.toBitVec_and, UInt32.toBitVec_xor, BitVec.getLsbD_and, BitVec.getLsbD_xor, Bool.and_xor_distrib_right]
theorem all8 {P : UInt8 → Prop} (h : ∀ k : Fin 256, P (UInt8.ofNat k)) (c : UInt8) : P c := by
  have := h ⟨c.toNat, c.toNat_lt⟩
  simpa using this
theorem shY_succ (c : UInt8) (k : Nat) (hk : k < 8) : (shYr c (k : Int)).toUInt32 >>> (1 : UInt32) = (shYr c ((k + 1 : Nat) : Int)).toUInt32 := by
  have : ∀ c : UInt8, ∀ k : Fin 8, (shYr c ((k : Nat) : Int)).toUInt32 >>> (1 : UInt32) = (shYr c (((k : Nat) + 1 : Nat) : Int)).toUInt32 := all8 (by decide +kernel)
  exact this c ⟨k, hk⟩
theorem step_rel (c : UInt8) (k : Nat) (hk : k < 8) (r : UInt32) : bitStep (r ^^^ (shYr c (k : Int)).toUInt32) = refStep c k r ^^^ (shYr c ((k + 1 : Nat) : Int)).toUInt32 := by
  unfold bitStep refStep
  rw [and_one_xor, xsr, shY_succ c k hk]
  split
  · rw [UInt32.xor_assoc, UInt32.xor_assoc, UInt32.xor_comm 3945912366]
  · rfl

theorem wire_inner (c : UInt8) : ∀ (n : Nat) (j : Nat) (r : UInt32), n = 8 - j + 1 → j ≤ 8 →
    ∃ q, wire_Check_l1 n (r ^^^ (shYr c (j : Int)).toUInt32) (j : Int) = some q ∧ ∀ (s : Str) (i : Int), gi s i = some c → hawthornref03_Check_l1 s i n r (j : Int) = some q := by
  intro n
  induction n with
  | zero => intro j r h; omega
  | succ n ih =>
    intro j r hn hj
    by_cases h8 : j < 8
    · obtain ⟨q, h1, h2⟩ := ih (j + 1) (refStep c j r) (by omega) (by omega)
      refine ⟨q, ?_, ?_⟩
      · unfold wire_Check_l1
        have e : decide ((j : Int) < 8) = true := by simp; omega
        rw [if_pos e]
        have ei : i64 ((j : Int) + 1) = ((j + 1 : Nat) : Int) := by rw [i64_id] <;> omega
        have es := step_rel c j h8 r
        unfold bitStep at es
        rw [sh1]
        split
        · rename_i hb
          rw [if_pos hb] at es
          simp only [Option.bind_some]
          rw [es, ei]; exact h1
        · rename_i hb
          rw [if_neg hb] at es
          simp only [Option.bind_some]
          rw [es, ei]; exact h1
      · intro s i hs
        unfold hawthornref03_Check_l1
        have e : decide ((j : Int) < 8) = true := by simp; omega
        rw [if_pos e, hs]
        have ei : i64 ((j : Int) + 1) = ((j + 1 : Nat) : Int) := by rw [i64_id] <;> omega
        have ew : ((toW (j : Int)).toNat : Int) = (j : Int) := by
          have : ∀ k : Fin 8, ((toW ((k : Nat) : Int)).toNat : Int) = ((k : Nat) : Int) := by decide +kernel
          exact this ⟨j, h8⟩
        have hr : refStep c j r = if (((r &&& 1) ^^^ (((shYr c ((toW (j : Int)).toNat : Int)).toUInt32) &&& 1)) == 1) = true then (r / 2) ^^^ 3945912366 else r / 2 := by
          unfold refStep; rw [ew, half]
        simp only [Option.bind_some]
        have h3 := h2 s i hs
        split
        · rename_i hb
          rw [if_pos hb] at hr
          simp only [Option.bind_some]
          rw [← hr, ei]; exact h3
        · rename_i hb
          rw [if_neg hb] at hr
          simp only [Option.bind_some]
          rw [← hr, ei]; exact h3
    · obtain rfl : j = 8 := by omega
      have e0 : ∀ c : UInt8, (shYr c ((8 : Nat) : Int)).toUInt32 = 0 := all8 (by decide +kernel)
      refine ⟨r, ?_, ?_⟩
      · unfold wire_Check_l1
        rw [if_neg (by decide), e0]
        simp
      · intro s i hs
        unfold hawthornref03_Check_l1
        rw [if_neg (by decide)]
theorem check_outer (s : Str) (hs : (s.length : Int) ≤ 9223372036854775807) : ∀ (n : Nat) (r : UInt32) (i : Int), 0 ≤ i → i ≤ (s.length : Int) → n = ((s.length : Int) - i).toNat + 1 →
    ∃ q, wire_Check_l0 s n r i = some q ∧ hawthornref03_Check_l0 s n r i = some q := by
  intro n
  induction n with
  | zero => intro r i _ _ h; omega
  | succ n ih =>
    intro r i h0 h1 hn
    unfold wire_Check_l0 hawthornref03_Check_l0
    by_cases hi : i < (s.length : Int)
    · have e : decide (i < (s.length : Int)) = true := by simpa using hi
      rw [if_pos e, if_pos e]
      obtain ⟨c, hc⟩ := gi_lt h0 hi
      obtain ⟨q, h2, h3⟩ := wire_inner c 9 0 r rfl (by omega)
      have e0 : (shYr c ((0 : Nat) : Int)).toUInt32 = c.toUInt32 := by
        have : ∀ c : UInt8, (shYr c ((0 : Nat) : Int)).toUInt32 = c.toUInt32 := all8 (by decide +kernel)
        exact this c
      rw [e0] at h2
      have h3' := h3 s i hc
      simp only [hc, Option.bind_some]
      have h2' : wire_Check_l1 9 (r ^^^ c.toUInt32) 0 = some q := h2
      have h3'' : hawthornref03_Check_l1 s i 9 r 0 = some q := h3'
      rw [h2', h3'']
      simp only [Option.bind_some]
      rw [step_ok h0 hi hs]
      exact ih q (i + 1) (by omega) (by omega) (by omega)
    · have e : ¬ decide (i < (s.length : Int)) = true := by simpa using hi
      rw [if_neg e, if_neg e]
      exact ⟨r, rfl, rfl⟩
theorem not_all (q : UInt32) : ~~~q = 4294967295 - q := by
  apply UInt32.toBitVec_inj.1
  simp only [UInt32.toBitVec_not, UInt32.toBitVec_sub]
  have := BitVec.allOnes_sub_eq_not q.toBitVec
  rw [← this]
  rfl
theorem check_eq (s : Str) (hs : s.length ≤ 9223372036854775807) : ∃ q, wire_Check s = some q ∧ hawthornref03_Check s = some q := by
  obtain ⟨q, h1, h2⟩ := check_outer s (by omega) (((s.length : Int) - 0).toNat + 1) 4294967295 0 (by omega) (by omega) rfl
  refine ⟨~~~q, ?_, ?_⟩
  · unfold wire_Check
    rw [if_pos (by simp [maxLen]; omega), h1]
    rfl
  · unfold hawthornref03_Check
    rw [h2, not_all]
    rfl
theorem WireChecks (s : Str) (hs : sok s) : hawthornlaw03_WireChecks s = some true := by
  unfold hawthornlaw03_WireChecks
  have key : ∀ p : Str, p.length ≤ 9223372036854775807 → (hawthornlaw03_awake.bind fun r4 => if r4 = true then (wire_Check p).bind fun r8 => (hawthornref03_Check p).bind fun r10 => some (r8 == r10) else some false) = some true := fun p hp => by
    obtain ⟨q, h1, h2⟩ := check_eq p hp
    rw [awake_true, h1, h2]
    simp
  unfold sok at hs
  split
  · rename_i hl
    have : sl s 0 2000 = some (s.take 2000) := by
      unfold sl
      have : (2000 : Int) ≤ s.length := by have := of_decide_eq_true hl; omega
      rw [if_pos ⟨by omega, by omega, this⟩]
      rfl
    rw [this]
    simp only [Option.bind_some]
    exact key _ (by simp; omega)
  · simp only [Option.bind_some]
    exact key _ (by omega)
end Go.Proofs.Ytgnpffbgfmeinaa.Pure
