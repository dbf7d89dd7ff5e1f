import Derived.Test.YthngfieikhillaaW9
set_option linter.unusedVariables false
set_option linter.unusedSectionVars false
set_option linter.unusedSimpArgs false
set_option maxRecDepth 100000
set_option maxHeartbeats 8000000

namespace Go.Proofs.Ythngfieikhillaa.Pure
open Go Go.Proofs.Ythngfieikhillaa.Hw Go.Proofs.Ythngfieikhillaa

theorem gi_lt {α : Type} {l : List α} {i : Int} (h0 : 0 ≤ i) (h1 : i < (l.length : Int)) : ∃ x, gi l i = some x := by
  unfold gi
  rw [if_pos h0]
  exact ⟨_, List.getElem?_eq_getElem (by omega)⟩
theorem step_ok {i n : Int} (h0 : 0 ≤ i) (h1 : i < n) (h2 : n ≤ 9223372036854775807) : i64 (i + 1) = i + 1 := i64_id (by omega) (by omega)

/-! the check -/

theorem sh1 (a : UInt32) : shDr a ((1 : UInt64).toNat : Int) = a >>> (1 : UInt32) := by
  apply UInt32.toNat_inj.1
  have h : a.toNat / 2 ^ 1 < 2 ^ 32 := Nat.lt_of_le_of_lt (Nat.div_le_self _ _) a.toNat_lt
  have e : min ((1 : UInt64).toNat : Int).toNat 32 = 1 := by decide
  unfold shDr
  rw [e, UInt32.toNat_ofNat', Nat.mod_eq_of_lt h, UInt32.toNat_shiftRight]
  simp [Nat.shiftRight_eq_div_pow]
theorem half (a : UInt32) : a / (2 : UInt32) = a >>> (1 : UInt32) := by
  apply UInt32.toNat_inj.1
  rw [UInt32.toNat_div, UInt32.toNat_shiftRight]
  simp [Nat.shiftRight_eq_div_pow]
theorem xsr (a b : UInt32) : (a ^^^ b) >>> (1 : UInt32) = (a >>> (1 : UInt32)) ^^^ (b >>> (1 : UInt32)) := by
  apply UInt32.toBitVec_inj.1
  simp [BitVec.ushiftRight_xor_distrib]
/-- One bit: what the code's register is beside the document's. -/
def bitStep (r : UInt32) : UInt32 := if ((r &&& 1) == 1) = true then (r >>> (1 : UInt32)) ^^^ 3945912366 else r >>> (1 : UInt32)
def refStep (c : UInt8) (k : Nat) (r : UInt32) : UInt32 := if (((r &&& 1) ^^^ (((shYr c (k : Int)).toUInt32) &&& 1)) == 1) = true then (r >>> (1 : UInt32)) ^^^ 3945912366 else r >>> (1 : UInt32)

theorem and_one_xor (a b : UInt32) : (a ^^^ b) &&& 1 = (a &&& 1) ^^^ (b &&& 1) := by
  apply UInt32.toBitVec_inj.1
  apply BitVec.eq_of_getLsbD_eq
  intro i hi
  simp only [UInt32.toBitVec_and, UInt32.toBitVec_xor, BitVec.getLsbD_and, BitVec.getLsbD_xor, Bool.and_xor_distrib_right]
theorem all8 {P : UInt8 → Prop} (h : ∀ k : Fin 256, P (UInt8.ofNat k)) (c : UInt8) : P c := by
  have := h ⟨c.toNat, c.toNat_lt⟩
  simpa using this
theorem shY_succ (c : UInt8) (k : Nat) (hk : k < 8) : (shYr c (k : Int)).toUInt32 >>> (1 : UInt32) = (shYr c ((k + 1 : Nat) : Int)).toUInt32 := by
  have : ∀ c : UInt8, ∀ k : Fin 8, (shYr c ((k : Nat) : Int)).toUInt32 >>> (1 : UInt32) = (shYr c (((k : Nat) + 1 : Nat) : Int)).toUInt32 := all8 (by decide +kernel)
  exact this c ⟨k, hk⟩
theorem step_rel (c : UInt8) (k : Nat) (hk : k < 8) (r : UInt32) : bitStep (r ^^^ (shYr c (k : Int)).toUInt32) = refStep c k r ^^^ (shYr c ((k + 1 : Nat) : Int)).toUInt32 := by
  unfold bitStep refStep
  rw [and_one_xor, xsr, shY_succ c k hk]
  split
  · rw [UInt32.xor_assoc, UInt32.xor_assoc, UInt32.xor_comm 3945912366]
  · rfl

theorem wire_inner (c : UInt8) : ∀ (n : Nat) (j : Nat) (r : UInt32), n = 8 - j + 1 → j ≤ 8 →
    ∃ q, wire_Check_l1 n (r ^^^ (shYr c (j : Int)).toUInt32) (j : Int) = some q ∧ ∀ (s : Str) (i : Int), gi s i = some c → hawthornref03_Check_l1 s i n r (j : Int) = some q := by
  intro n
  induction n with
  | zero => intro j r h; omega
  | succ n ih =>
    intro j r hn hj
    by_cases h8 : j < 8
    · obtain ⟨q, h1, h2⟩ := ih (j + 1) (refStep c j r) (by omega) (by omega)
      refine ⟨q, ?_, ?_⟩
      · unfold wire_Check_l1
        have e : decide ((j : Int) < 8) = true := by simp; omega
        rw [if_pos e]
        have ei : i64 ((j : Int) + 1) = ((j + 1 : Nat) : Int) := by rw [i64_id] <;> omega
        have es := step_rel c j h8 r
        unfold bitStep at es
        rw [sh1]
        split
        · rename_i hb
          rw [if_pos hb] at es
          simp only [Option.bind_some]
          rw [es, ei]; exact h1
        · rename_i hb
          rw [if_neg hb] at es
          simp only [Option.bind_some]
          rw [es, ei]; exact h1
      · intro s i hs
        unfold hawthornref03_Check_l1
        have e : decide ((j : Int) < 8) = true := by simp; omega
        rw [if_pos e, hs]
        have ei : i64 ((j : Int) + 1) = ((j + 1 : Nat) : Int) := by rw [i64_id] <;> omega
        have ew : ((toW (j : Int)).toNat : Int) = (j : Int) := by
          have : ∀ k : Fin 8, ((toW ((k : Nat) : Int)).toNat : Int) = ((k : Nat) : Int) := by decide +kernel
          exact this ⟨j, h8⟩
        have hr : refStep c j r = if (((r &&& 1) ^^^ (((shYr c ((toW (j : Int)).toNat : Int)).toUInt32) &&& 1)) == 1) = true then (r / 2) ^^^ 3945912366 else r / 2 := by
          unfold refStep; rw [ew, half]
        simp only [Option.bind_some]
        have h3 := h2 s i hs
        split
        · rename_i hb
          rw [if_pos hb] at hr
          simp only [Option.bind_some]
          rw [← hr, ei]; exact h3
        · rename_i hb
          rw [if_neg hb] at hr
          simp only [Option.bind_some]
          rw [← hr, ei]; exact h3
    · obtain rfl : j = 8 := by omega
      have e0 : ∀ c : UInt8, (shYr c ((8 : Nat) : Int)).toUInt32 = 0 := all8 (by decide +kernel)
      refine ⟨r, ?_, ?_⟩
      · unfold wire_Check_l1
        rw [if_neg (by decide), e0]
        simp
      · intro s i hs
        unfold hawthornref03_Check_l1
        rw [if_neg (by decide)]
theorem check_outer (s : Str) (hs : (s.length : Int) ≤ 9223372036854775807) : ∀ (n : Nat) (r : UInt32) (i : Int), 0 ≤ i → i ≤ (s.length : Int) → n = ((s.length : Int) - i).toNat + 1 →
    ∃ q, wire_Check_l0 s n r i = some q ∧ hawthornref03_Check_l0 s n r i = some q := by
  intro n
  induction n with
  | zero => intro r i _ _ h; omega
  | succ n ih =>
    intro r i h0 h1 hn
    unfold wire_Check_l0 hawthornref03_Check_l0
    by_cases hi : i < (s.length : Int)
    · have e : decide (i < (s.length : Int)) = true := by simpa using hi
      rw [if_pos e, if_pos e]
      obtain ⟨c, hc⟩ := gi_lt h0 hi
      obtain ⟨q, h2, h3⟩ := wire_inner c 9 0 r rfl (by omega)
      have e0 : (shYr c ((0 : Nat) : Int)).toUInt32 = c.toUInt32 := by
        have : ∀ c : UInt8, (shYr c ((0 : Nat) : Int)).toUInt32 = c.toUInt32 := all8 (by decide +kernel)
        exact this c
      rw [e0] at h2
      have h3' := h3 s i hc
      simp only [hc, Option.bind_some]
      have h2' : wire_Check_l1 9 (r ^^^ c.toUInt32) 0 = some q := h2
      have h3'' : hawthornref03_Check_l1 s i 9 r 0 = some q := h3'
      rw [h2', h3'']
      simp only [Option.bind_some]
      rw [step_ok h0 hi hs]
      exact ih q (i + 1) (by omega) (by omega) (by omega)
    · have e : ¬ decide (i < (s.length : Int)) = true := by simpa using hi
      rw [if_neg e, if_neg e]
      exact ⟨r, rfl, rfl⟩
theorem not_all (q : UInt32) : ~~~q = 4294967295 - q := by
  apply UInt32.toBitVec_inj.1
  simp only [UInt32.toBitVec_not, UInt32.toBitVec_sub]
  have := BitVec.allOnes_sub_eq_not q.toBitVec
  rw [← this]
  rfl
theorem check_eq (s : Str) (hs : s.length ≤ 9223372036854775807) : ∃ q, wire_Check s = some q ∧ hawthornref03_Check s = some q := by
  obtain ⟨q, h1, h2⟩ := check_outer s (by omega) (((s.length : Int) - 0).toNat + 1) 4294967295 0 (by omega) (by omega) rfl
  refine ⟨~~~q, ?_, ?_⟩
  · unfold wire_Check
    rw [if_pos (by simp [maxLen]; omega), h1]
    rfl
  · unfold hawthornref03_Check
    rw [h2, not_all]
    rfl
def enc : Nat → Nat → Str
  | 0, _ => []
  | f + 1, n => if n < 128 then [UInt8.ofNat n] else UInt8.ofNat (n % 128 + 128) :: enc f (n / 128)
theorem enc_len : ∀ (f n : Nat), (enc f n).length ≤ f
  | 0, _ => by simp [enc]
  | f + 1, n => by
    have := enc_len f (n / 128)
    unfold enc
    split <;> simp <;> omega
theorem byte_hi (n : UInt64) : ((n % 128).toUInt8) + 128 = UInt8.ofNat (n.toNat % 128 + 128) := by
  apply UInt8.toNat_inj.1
  have e : (128 : UInt8).toNat = 128 := by decide
  have e2 : (128 : UInt64).toNat = 128 := by decide
  rw [UInt8.toNat_add, UInt64.toNat_toUInt8, UInt64.toNat_mod, UInt8.toNat_ofNat', e, e2]
  omega
theorem byte_hi' (n : UInt64) : (128 + (n % 128)).toUInt8 = UInt8.ofNat (n.toNat % 128 + 128) := by
  apply UInt8.toNat_inj.1
  have e2 : (128 : UInt64).toNat = 128 := by decide
  rw [UInt64.toNat_toUInt8, UInt64.toNat_add, UInt64.toNat_mod, UInt8.toNat_ofNat', e2]
  omega
theorem byte_lo (n : UInt64) : n.toUInt8 = UInt8.ofNat n.toNat := by
  apply UInt8.toNat_inj.1
  rw [UInt64.toNat_toUInt8, UInt8.toNat_ofNat']
theorem div128 (n : UInt64) : (n / 128).toNat = n.toNat / 128 := by
  have e2 : (128 : UInt64).toNat = 128 := by decide
  rw [UInt64.toNat_div, e2]
theorem ge128 (n : UInt64) : (decide (128 ≤ n)) = decide (128 ≤ n.toNat) := by
  have e2 : (128 : UInt64).toNat = 128 := by decide
  rw [decide_eq_decide, UInt64.le_iff_toNat_le, e2]
theorem gt127 (n : UInt64) : (decide (127 < n)) = decide (128 ≤ n.toNat) := by
  have e2 : (127 : UInt64).toNat = 127 := by decide
  rw [decide_eq_decide, UInt64.lt_iff_toNat_lt, e2]
  exact Iff.rfl

theorem wnum_loop : ∀ (f : Nat) (n : UInt64) (c : Str), n.toNat < 128 ^ (f + 1) → c.length + f ≤ 1000 →
    ∃ m c', wire_Num_l0 (f + 1) n c = some (m, c') ∧ hawthornref03_Num_l0 (f + 1) n c = some (m, c') ∧ c' ++ [UInt8.ofNat m.toNat] = c ++ enc (f + 1) n.toNat ∧ c'.length ≤ c.length + f := by
  intro f
  induction f with
  | zero =>
    intro n c hn hl
    have h : ¬ 128 ≤ n.toNat := by simpa using hn
    have e : decide (128 ≤ n.toNat) = false := by simpa using h
    refine ⟨n, c, ?_, ?_, ?_, by omega⟩
    · unfold wire_Num_l0; rw [ge128, e]; rfl
    · unfold hawthornref03_Num_l0; rw [gt127, e]; rfl
    · unfold enc; rw [if_pos (by omega)]
  | succ f ih =>
    intro n c hn hl
    by_cases h : 128 ≤ n.toNat
    · have e : decide (128 ≤ n.toNat) = true := by simpa using h
      have hd : (n / 128).toNat < 128 ^ (f + 1) := by
        rw [div128]
        rw [Nat.pow_succ] at hn
        exact Nat.div_lt_of_lt_mul (by rw [Nat.mul_comm]; exact hn)
      obtain ⟨m, c', h1, h2, h3, h4⟩ := ih (n / 128) (c ++ [UInt8.ofNat (n.toNat % 128 + 128)]) hd (by simp; omega)
      refine ⟨m, c', ?_, ?_, ?_, by simp at h4; omega⟩
      · unfold wire_Num_l0
        rw [ge128, e, if_pos rfl, byte_hi]
        have ha : apd 1 c [UInt8.ofNat (n.toNat % 128 + 128)] = some (c ++ [UInt8.ofNat (n.toNat % 128 + 128)]) := by
          unfold apd
          rw [if_pos (by simp; omega)]
        rw [ha, Option.bind_some]
        exact h1
      · unfold hawthornref03_Num_l0
        rw [gt127, e, if_pos rfl, byte_hi', if_pos (by simp [maxS]; omega)]
        exact h2
      · rw [h3, div128]
        conv => rhs; unfold enc
        rw [if_neg (by omega)]
        simp
    · have e : decide (128 ≤ n.toNat) = false := by simpa using h
      refine ⟨n, c, ?_, ?_, ?_, by omega⟩
      · unfold wire_Num_l0; rw [ge128, e]; rfl
      · unfold hawthornref03_Num_l0; rw [gt127, e]; rfl
      · unfold enc; rw [if_pos (by omega)]

/-- A number's bytes, by the code and by the document. -/
theorem num_enc (n : UInt64) : wire_Num n = some (enc 11 n.toNat) ∧ hawthornref03_Num n = some (enc 11 n.toNat) := by
  have hn : n.toNat < 128 ^ (10 + 1) := Nat.lt_of_lt_of_le n.toNat_lt (by decide)
  obtain ⟨m, c', h1, h2, h3, h4⟩ := wnum_loop 10 n [] hn (by simp)
  rw [List.nil_append] at h3
  constructor
  · unfold wire_Num
    have h1' : wire_Num_l0 11 n [] = some (m, c') := h1
    rw [h1', Option.bind_some]
    dsimp only
    rw [byte_lo]
    have ha : apd 1 c' [UInt8.ofNat m.toNat] = some (c' ++ [UInt8.ofNat m.toNat]) := by
      unfold apd
      rw [if_pos (by simp at h4 ⊢; omega)]
    rw [ha, Option.bind_some, h3]
  · unfold hawthornref03_Num
    have h2' : hawthornref03_Num_l0 11 n [] = some (m, c') := h2
    rw [h2', Option.bind_some]
    dsimp only
    rw [byte_lo, if_pos (by simp [maxS] at h4 ⊢; omega), h3]
theorem sl_lo {s : Str} {n : Int} (h0 : 0 ≤ n) (h1 : n ≤ (s.length : Int)) : sl s 0 n = some (s.take n.toNat) := by
  unfold sl
  rw [if_pos ⟨by omega, h0, h1⟩]
  simp
theorem sl_hi {s : Str} {n : Int} (h0 : 0 ≤ n) (h1 : n ≤ (s.length : Int)) : sl s n (s.length : Int) = some (s.drop n.toNat) := by
  unfold sl
  rw [if_pos ⟨h0, h1, by omega⟩, List.take_of_length_le (by simp)]

theorem digit_val (n unit : UInt64) (c : UInt8) (j : Nat) (hj : j ≤ 9) (hn : n.toNat < 2 ^ (7 * j)) (hu : unit.toNat = 2 ^ (7 * j)) (h9 : j = 9 → c.toNat ≤ 1) :
    n ||| shWl ((c % 128).toUInt64) (7 * (j : Int)) = n + (c.toUInt64 % 128) * unit ∧ (n + (c.toUInt64 % 128) * unit).toNat = n.toNat + c.toNat % 128 * 2 ^ (7 * j) := by
  have hd : (c % 128).toNat = c.toNat % 128 := by rw [UInt8.toNat_mod]; rfl
  have hd64 : ((c % 128).toUInt64).toNat = c.toNat % 128 := by rw [UInt8.toNat_toUInt64, hd]
  have he64 : (c.toUInt64 % 128).toNat = c.toNat % 128 := by rw [UInt64.toNat_mod, UInt8.toNat_toUInt64]; rfl
  have hcl := c.toNat_lt
  have hm : c.toNat % 128 < 128 := Nat.mod_lt _ (by decide)
  have htop : c.toNat % 128 * 2 ^ (7 * j) + 2 ^ (7 * j) ≤ 2 ^ 64 := by
    by_cases e9 : j = 9
    · have := h9 e9
      subst e9
      have h1 : c.toNat % 128 + 1 ≤ 2 := by have := Nat.mod_le c.toNat 128; omega
      have h2 : (c.toNat % 128 + 1) * 2 ^ (7 * 9) ≤ 2 * 2 ^ (7 * 9) := Nat.mul_le_mul_right _ h1
      rw [Nat.add_mul, Nat.one_mul] at h2
      exact Nat.le_trans h2 (by decide)
    · have h2 : (c.toNat % 128 + 1) * 2 ^ (7 * j) ≤ 128 * 2 ^ (7 * 8) := Nat.mul_le_mul (by omega) (Nat.pow_le_pow_right (by decide) (by omega))
      rw [Nat.add_mul, Nat.one_mul] at h2
      exact Nat.le_trans h2 (by decide)
  have hpos : 0 < 2 ^ (7 * j) := Nat.pow_pos (by decide)
  have hmul : ((c.toUInt64 % 128) * unit).toNat = c.toNat % 128 * 2 ^ (7 * j) := by
    rw [UInt64.toNat_mul, he64, hu, Nat.mod_eq_of_lt (Nat.lt_of_lt_of_le (Nat.lt_add_of_pos_right hpos) htop)]
  have hadd : (n + (c.toUInt64 % 128) * unit).toNat = n.toNat + c.toNat % 128 * 2 ^ (7 * j) := by
    rw [UInt64.toNat_add, hmul, Nat.mod_eq_of_lt (Nat.lt_of_lt_of_le (by rw [Nat.add_comm]; exact Nat.add_lt_add_left hn _) htop)]
  refine ⟨?_, hadd⟩
  apply UInt64.toNat_inj.1
  rw [hadd, UInt64.toNat_or]
  have hmin : min (7 * (j : Int)).toNat 64 = 7 * j := by omega
  have hsh : (shWl ((c % 128).toUInt64) (7 * (j : Int))).toNat = c.toNat % 128 * 2 ^ (7 * j) := by
    unfold shWl
    rw [hmin, hd64, UInt64.toNat_ofNat', Nat.mod_eq_of_lt (Nat.lt_of_lt_of_le (Nat.lt_add_of_pos_right hpos) htop)]
  rw [hsh, Nat.or_comm, Nat.mul_comm, ← Nat.two_pow_add_eq_or_of_lt hn, Nat.add_comm]

theorem one_cons (c : UInt8) (tl : Str) : wire_Reader_Bytes ⟨c :: tl⟩ 1 = some (.inl ([c], ⟨tl⟩)) := by
  have e1 : (decide ((1 : Int) < 0) || decide (((c :: tl).length : Int) < 1)) = false := by simp; omega
  unfold wire_Reader_Bytes
  simp only [e1, Bool.false_eq_true, if_false, Option.bind_some]
  rw [sl_lo (by omega) (by simp; omega), sl_hi (by omega) (by simp; omega)]
  rfl
theorem unit_next (unit : UInt64) (j : Nat) (hu : unit.toNat = 2 ^ (7 * j)) (hj9 : j + 1 ≤ 9) : (unit * 128).toNat = 2 ^ (7 * (j + 1)) := by
  have e2 : 2 ^ (7 * (j + 1)) = 2 ^ (7 * j) * 128 := by rw [Nat.mul_add, Nat.pow_add]
  have e3 : 2 ^ (7 * (j + 1)) < 2 ^ 64 := Nat.pow_lt_pow_right (by decide) (by omega)
  have e4 : (128 : UInt64).toNat = 128 := by decide
  rw [UInt64.toNat_mul, hu, e4, ← e2, Nat.mod_eq_of_lt e3]
theorem acc_next (n d j : Nat) (hn : n < 2 ^ (7 * j)) (hm : d < 128) : n + d * 2 ^ (7 * j) < 2 ^ (7 * (j + 1)) := by
  have e2 : 2 ^ (7 * (j + 1)) = 2 ^ (7 * j) * 128 := by rw [Nat.mul_add, Nat.pow_add]
  rw [e2]
  generalize 2 ^ (7 * j) = p at *
  have : (d + 1) * p ≤ 128 * p := Nat.mul_le_mul_right _ (by omega)
  rw [Nat.add_mul] at this
  omega

theorem i7 (j : Nat) (hj : j < 10) : i64 (7 * (j : Int)) = 7 * (j : Int) := i64_id (by omega) (by omega)
theorem i7n (j : Nat) : 0 ≤ 7 * (j : Int) := by omega
theorem ij1 (j : Nat) (hj : j < 10) : i64 ((j : Int) + 1) = ((j + 1 : Nat) : Int) := by rw [i64_id] <;> omega
theorem pow_split (j : Nat) (hj : j + 1 ≤ 9) : 2 ^ (64 - 7 * j) = 128 * 2 ^ (64 - 7 * (j + 1)) := by
  rw [show 64 - 7 * j = 7 + (64 - 7 * (j + 1)) by omega, Nat.pow_add]

theorem one_round (k j : Nat) (n : UInt64) (c : UInt8) (tl : Str) (hj : j < 10) (hb : ((((j : Int) == 9) && decide (1 < c)) || (decide (0 < (j : Int)) && (c == 0))) = false) :
    wire_Reader_Num_l0 (k + 1) n (j : Int) (c :: tl) = if decide (c < 128) = true then some (.inl (n ||| shWl ((c % 128).toUInt64) (7 * (j : Int)), tl)) else wire_Reader_Num_l0 k (n ||| shWl ((c % 128).toUInt64) (7 * (j : Int))) ((j + 1 : Nat) : Int) tl := by
  conv => lhs; unfold wire_Reader_Num_l0
  have e : decide ((j : Int) < 10) = true := by simp; omega
  rw [if_pos e, one_cons c tl, Option.bind_some]
  dsimp only [sm]
  have hg : gi [c] 0 = some c := rfl
  rw [hg, Option.bind_some, hb, if_neg (by decide), Option.bind_some]
  dsimp only
  rw [i7 j hj, if_pos (i7n j), ij1 j hj]

theorem unit_of (j : Nat) (hj : j ≤ 9) : (UInt64.ofNat (2 ^ (7 * j))).toNat = 2 ^ (7 * j) := by
  rw [UInt64.toNat_ofNat', Nat.mod_eq_of_lt (Nat.pow_lt_pow_right (by decide) (by omega))]
theorem read_last (j v : Nat) (n : UInt64) (rest : Str) (hj : j ≤ 9) (hv : v < 2 ^ (64 - 7 * j)) (hp : 0 < j → 0 < v) (h128 : v < 128) (hn : n.toNat < 2 ^ (7 * j)) (g : Nat) :
    ∃ m, wire_Reader_Num_l0 (10 - j + 1) n (j : Int) (enc (g + 1) v ++ rest) = some (.inl (m, rest)) ∧ m.toNat = n.toNat + v * 2 ^ (7 * j) := by
  have hc : (UInt8.ofNat v).toNat = v := by rw [UInt8.toNat_ofNat']; omega
  have h9 : j = 9 → v ≤ 1 := fun e => by
    subst e
    have : (2 : Nat) ^ (64 - 7 * 9) = 2 := by decide
    omega
  have hb : ((((j : Int) == 9) && decide (1 < UInt8.ofNat v)) || (decide (0 < (j : Int)) && (UInt8.ofNat v == 0))) = false := by
    rw [Bool.or_eq_false_iff]
    constructor
    · by_cases e : j = 9
      · have : ¬ (1 < UInt8.ofNat v) := by
          rw [UInt8.lt_iff_toNat_lt, hc]
          have e0 : (1 : UInt8).toNat = 1 := by decide
          have := h9 e
          omega
        simp [this]
      · have h1 : ((j : Int) == 9) = false := by simp; omega
        rw [h1]; rfl
    · by_cases e : 0 < j
      · have h2 : (UInt8.ofNat v == 0) = false := by
          rw [beq_eq_false_iff_ne]
          intro h
          have := congrArg UInt8.toNat h
          rw [hc] at this
          have e0 : (0 : UInt8).toNat = 0 := by decide
          have := hp e
          omega
        rw [h2, Bool.and_false]
      · have h1 : decide (0 < (j : Int)) = false := by simp; omega
        rw [h1]; rfl
  have e : enc (g + 1) v ++ rest = UInt8.ofNat v :: rest := by
    unfold enc
    rw [if_pos h128]; rfl
  obtain ⟨v1, v2⟩ := digit_val n (UInt64.ofNat (2 ^ (7 * j))) (UInt8.ofNat v) j hj hn (unit_of j hj) (fun h => by rw [hc]; exact h9 h)
  rw [hc, Nat.mod_eq_of_lt h128] at v2
  have hlt : decide (UInt8.ofNat v < 128) = true := by
    rw [decide_eq_true_iff, UInt8.lt_iff_toNat_lt, hc]
    have e0 : (128 : UInt8).toNat = 128 := by decide
    omega
  rw [e, one_round (10 - j) j n _ _ (by omega) hb, if_pos hlt, v1]
  exact ⟨_, rfl, v2⟩

theorem read_loop : ∀ (g j v : Nat) (n : UInt64) (rest : Str), j ≤ 9 → v < 2 ^ (64 - 7 * j) → (0 < j → 0 < v) → v < 128 ^ (g + 1) → n.toNat < 2 ^ (7 * j) →
    ∃ m, wire_Reader_Num_l0 (10 - j + 1) n (j : Int) (enc (g + 1) v ++ rest) = some (.inl (m, rest)) ∧ m.toNat = n.toNat + v * 2 ^ (7 * j) := by
  intro g
  induction g with
  | zero =>
    intro j v n rest hj hv hp hg hn
    have h128 : v < 128 := by simpa using hg
    exact read_last j v n rest hj hv hp h128 hn 0
  | succ g ih =>
    intro j v n rest hj hv hp hg hn
    by_cases h128 : v < 128
    · exact read_last j v n rest hj hv hp h128 hn (g + 1)
    · have hj9 : j + 1 ≤ 9 := by
        rcases Nat.lt_or_ge j 9 with h | h
        · exact h
        · obtain rfl : j = 9 := by omega
          have : (2 : Nat) ^ (64 - 7 * 9) = 2 := by decide
          omega
      have hc : (UInt8.ofNat (v % 128 + 128)).toNat = v % 128 + 128 := by rw [UInt8.toNat_ofNat']; omega
      have hb : ((((j : Int) == 9) && decide (1 < UInt8.ofNat (v % 128 + 128))) || (decide (0 < (j : Int)) && (UInt8.ofNat (v % 128 + 128) == 0))) = false := by
        have h1 : ((j : Int) == 9) = false := by simp; omega
        have h2 : (UInt8.ofNat (v % 128 + 128) == 0) = false := by
          rw [beq_eq_false_iff_ne]
          intro h
          have := congrArg UInt8.toNat h
          rw [hc] at this
          have e0 : (0 : UInt8).toNat = 0 := by decide
          omega
        rw [h1, h2]; simp
      have e : enc (g + 1 + 1) v ++ rest = UInt8.ofNat (v % 128 + 128) :: (enc (g + 1) (v / 128) ++ rest) := by
        conv => lhs; unfold enc
        rw [if_neg h128]; rfl
      have ek : 10 - j = 10 - (j + 1) + 1 := by omega
      obtain ⟨v1, v2⟩ := digit_val n (UInt64.ofNat (2 ^ (7 * j))) (UInt8.ofNat (v % 128 + 128)) j hj hn (unit_of j hj) (fun h => absurd h (by omega))
      rw [hc] at v2
      have hmod : (v % 128 + 128) % 128 = v % 128 := by omega
      rw [hmod] at v2
      have hlt : ¬ decide (UInt8.ofNat (v % 128 + 128) < 128) = true := by
        rw [decide_eq_true_iff, UInt8.lt_iff_toNat_lt, hc]
        have e0 : (128 : UInt8).toNat = 128 := by decide
        omega
      rw [e, one_round (10 - j) j n _ _ (by omega) hb, if_neg hlt, v1]
      have hn' := acc_next n.toNat (v % 128) j hn (Nat.mod_lt _ (by decide))
      rw [← v2] at hn'
      have hpow := pow_split j hj9
      have hdiv : v / 128 < 2 ^ (64 - 7 * (j + 1)) := Nat.div_lt_of_lt_mul (by rw [← hpow]; exact hv)
      have hg' : v / 128 < 128 ^ (g + 1) := Nat.div_lt_of_lt_mul (by rw [Nat.mul_comm, ← Nat.pow_succ]; exact hg)
      obtain ⟨m, h1, h2⟩ := ih (j + 1) (v / 128) _ rest hj9 hdiv (fun _ => by omega) hg' hn'
      rw [ek]
      refine ⟨m, h1, ?_⟩
      rw [h2, v2]
      have e2 : 2 ^ (7 * (j + 1)) = 2 ^ (7 * j) * 128 := by rw [Nat.mul_add, Nat.pow_add]
      rw [e2, Nat.add_assoc]
      congr 1
      have hv' := Nat.div_add_mod v 128
      generalize 2 ^ (7 * j) = p
      calc v % 128 * p + v / 128 * (p * 128) = (128 * (v / 128) + v % 128) * p := by rw [Nat.add_mul, Nat.mul_comm p 128, ← Nat.mul_assoc, Nat.mul_comm (v / 128) 128, Nat.add_comm]
        _ = v * p := by rw [hv']

theorem num_back (n top : UInt64) (rest : Str) (h : n ≤ top) : wire_Reader_Num ⟨enc 11 n.toNat ++ rest⟩ top = some (.inl (n, ⟨rest⟩)) := by
  have hn : n.toNat < 2 ^ 64 := n.toNat_lt
  obtain ⟨m, h1, h2⟩ := read_loop 10 0 n.toNat 0 rest (by omega) hn (by omega) (Nat.lt_of_lt_of_le hn (by decide)) (by decide)
  have e : m = n := by
    apply UInt64.toNat_inj.1
    have e0 : (0 : UInt64).toNat = 0 := by decide
    rw [h2, e0]; simp
  subst e
  have h1' : wire_Reader_Num_l0 11 0 0 (enc 11 m.toNat ++ rest) = some (.inl (m, rest)) := h1
  unfold wire_Reader_Num
  dsimp only
  rw [h1', Option.bind_some]
  dsimp only
  rw [if_neg]
  rw [decide_eq_true_eq, UInt64.lt_iff_toNat_lt]
  have := UInt64.le_iff_toNat_le.1 h
  omega
theorem bytes_back (a rest : Str) (k : Int) (hk : k = (a.length : Int)) : wire_Reader_Bytes ⟨a ++ rest⟩ k = some (.inl (a, ⟨rest⟩)) := by
  subst hk
  have e1 : (decide ((a.length : Int) < 0) || decide (((a ++ rest).length : Int) < (a.length : Int))) = false := by simp; omega
  unfold wire_Reader_Bytes
  simp only [e1, Bool.false_eq_true, if_false, Option.bind_some]
  rw [sl_lo (by omega) (by simp; omega), sl_hi (by omega) (by simp; omega)]
  simp
theorem must_t (s : wire_Reader) : wire_Reader_Must s true = .inl () := by unfold wire_Reader_Must; rfl
theorem flag_back (b : Bool) (rest : Str) : wire_Reader_Flag ⟨(if b then 1 else 0) :: rest⟩ = some (.inl (b, ⟨rest⟩)) := by
  unfold wire_Reader_Flag
  rw [one_cons, Option.bind_some]
  cases b <;> rfl
theorem toW_len (n : Nat) (h : n ≤ 100000) : (toW (n : Int)).toNat = n := by
  unfold toW
  rw [UInt64.toNat_ofNat']
  omega
theorem text_bytes (u : Str) (h : u.length ≤ 100000) : wire_Text u = some (enc 11 u.length ++ u) ∧ hawthornref03_Text u = some (enc 11 u.length ++ u) := by
  obtain ⟨e1, e2⟩ := num_enc (toW (u.length : Int))
  rw [toW_len _ h] at e1 e2
  have hl := enc_len 11 u.length
  have hm : (enc 11 u.length).length + u.length ≤ maxS := by unfold maxS; omega
  unfold wire_Text hawthornref03_Text
  rw [e1, e2, Option.bind_some, if_pos hm]
  exact ⟨rfl, rfl⟩
theorem bytes_ok (u rest : Str) (q : Int) (e : q = (u.length : Int)) : wire_Reader_Bytes ⟨u ++ rest⟩ q = some (.inl (u, ⟨rest⟩)) := by
  subst e
  unfold wire_Reader_Bytes
  dsimp only
  have e1 : (decide ((u.length : Int) < 0) || decide (((u ++ rest).length : Int) < (u.length : Int))) = false := by simp; omega
  rw [e1, if_neg (by decide), Option.bind_some]
  dsimp only
  rw [sl_lo (by omega) (by simp; omega), sl_hi (by omega) (by simp; omega), Option.bind_some, Option.bind_some]
  simp
theorem then_bytes (u rest : Str) (q : Int) (e : q = (u.length : Int)) : ((wire_Reader_Bytes ⟨u ++ rest⟩ q).bind fun r6 => sm r6 (fun (ra8 : Str × wire_Reader) => some (Sum.inl (ra8.1, ra8.2))) fun ((rn9, ro10) : Int × wire_Reader) => some (Sum.inr (rn9, ro10))) = some (Sum.inl (u, ⟨rest⟩)) := by
  rw [bytes_ok u rest q e, Option.bind_some]
  rfl
theorem text_gen2 (w : UInt64 → Int) (s u rest : Str) (p x : UInt64) (hn : wire_Reader_Num ⟨s⟩ p = some (.inl (x, ⟨u ++ rest⟩))) (hw : w x = (u.length : Int)) :
    ((wire_Reader_Num ⟨s⟩ p).bind fun r0 => sm r0 (fun (ra2 : UInt64 × wire_Reader) => (wire_Reader_Bytes ra2.2 (w ra2.1)).bind fun r6 => sm r6 (fun (ra8 : Str × wire_Reader) => some (Sum.inl (ra8.1, ra8.2))) fun ((rn9, ro10) : Int × wire_Reader) => some (Sum.inr (rn9, ro10))) fun ((rn3, ro4) : Int × wire_Reader) => some (Sum.inr (rn3, ro4))) = some (.inl (u, ⟨rest⟩)) := by
  rw [hn, Option.bind_some]
  exact then_bytes u rest (w x) hw
theorem text_back (u : Str) (rest : Str) (top : Int) (h : u.length ≤ 100000) (ht : (u.length : Int) ≤ top) (ht2 : top ≤ 100000) : wire_Reader_Text ⟨enc 11 u.length ++ (u ++ rest)⟩ top = some (.inl (u, ⟨rest⟩)) := by
  have hn := num_back (toW (u.length : Int)) (toW top) (u ++ rest) (by
    obtain ⟨t, rfl⟩ : ∃ t : Nat, top = (t : Int) := ⟨top.toNat, by omega⟩
    rw [UInt64.le_iff_toNat_le, toW_len _ h, toW_len _ (by omega)]
    omega)
  rw [toW_len _ h] at hn
  unfold wire_Reader_Text
  rw [if_neg (by omega)]
  exact text_gen2 (fun x => i64 (x.toNat : Int)) _ u rest _ _ hn (by
    show i64 ((toW (u.length : Int)).toNat : Int) = _
    rw [toW_len _ h]
    exact i64_id (by omega) (by omega))

theorem shD_nat (a : UInt32) (k : UInt64) (n : Nat) (hk : min ((k.toNat : Int)).toNat 32 = n) : (shDr a ((k.toNat : Int))).toNat = a.toNat / 2 ^ n := by
  unfold shDr
  have h : a.toNat / 2 ^ n < 2 ^ 32 := Nat.lt_of_le_of_lt (Nat.div_le_self _ _) a.toNat_lt
  rw [hk, UInt32.toNat_ofNat', Nat.mod_eq_of_lt h]
theorem four_eq (a : UInt32) : wire_sum a = hawthornref03_Four a := by
  have h8 := shD_nat a 8 8 (by decide)
  have h16 := shD_nat a 16 16 (by decide)
  have h24 := shD_nat a 24 24 (by decide)
  have k1 : (256 : UInt32).toNat = 256 := by decide
  have k2 : (65536 : UInt32).toNat = 65536 := by decide
  have k3 : (16777216 : UInt32).toNat = 16777216 := by decide
  unfold wire_sum hawthornref03_Four
  have b0 : a.toUInt8 = (a % 256).toUInt8 := by
    apply UInt8.toNat_inj.1
    rw [UInt32.toNat_toUInt8, UInt32.toNat_toUInt8, UInt32.toNat_mod, k1]; omega
  have b1 : (shDr a ((8 : UInt64).toNat : Int)).toUInt8 = ((a / 256) % 256).toUInt8 := by
    apply UInt8.toNat_inj.1
    rw [UInt32.toNat_toUInt8, UInt32.toNat_toUInt8, UInt32.toNat_mod, UInt32.toNat_div, h8, k1]
    omega
  have b2 : (shDr a ((16 : UInt64).toNat : Int)).toUInt8 = ((a / 65536) % 256).toUInt8 := by
    apply UInt8.toNat_inj.1
    rw [UInt32.toNat_toUInt8, UInt32.toNat_toUInt8, UInt32.toNat_mod, UInt32.toNat_div, h16, k1, k2]
    omega
  have b3 : (shDr a ((24 : UInt64).toNat : Int)).toUInt8 = (a / 16777216).toUInt8 := by
    apply UInt8.toNat_inj.1
    rw [UInt32.toNat_toUInt8, UInt32.toNat_toUInt8, UInt32.toNat_div, h24, k3]
  rw [b0, b1, b2, b3]
/-- The code's closure, with the place of the check told by w. -/
def open1 (w : Int → Int) (a0 : wire_Reader) (a1 : Str) (a2 : Str) : Option ((wire_Reader × Str) ⊕ (Int × (wire_Reader × Str))) :=
  (wire_Reader_Bytes a0 1).bind fun r0 => sm r0 (fun (ra2 : Str × wire_Reader) => (gi ra2.1 0).bind fun c6 => lt (wire_Reader_Must ra2.2 (c6 == 49)) fun r8 => sm r8 (fun (ra10 : Unit) => (wire_Reader_Text ra2.2 65536).bind fun r14 => sm r14 (fun (ra16 : Str × wire_Reader) => (wire_Reader_Bytes ra16.2 4).bind fun r20 => sm r20 (fun (ra22 : Str × wire_Reader) => (sl a2 0 (w (wire_Reader_Left ra22.2))).bind fun s26 => (wire_Check s26).bind fun r28 => lt (wire_Reader_Must ra22.2 (ra22.1 == (wire_sum r28))) fun r30 => sm r30 (fun (ra32 : Unit) => some (Sum.inl (ra22.2, ra16.1))) fun ((rn33, ro34) : Int × Unit) => some (Sum.inr (rn33, (ra22.2, ra16.1)))) fun ((rn23, ro24) : Int × wire_Reader) => some (Sum.inr (rn23, (ro24, ra16.1)))) fun ((rn17, ro18) : Int × wire_Reader) => some (Sum.inr (rn17, (ro18, a1)))) fun ((rn11, ro12) : Int × Unit) => some (Sum.inr (rn11, (ra2.2, a1)))) fun ((rn3, ro4) : Int × wire_Reader) => some (Sum.inr (rn3, (ro4, a1)))
theorem must_ok (rd : wire_Reader) : wire_Reader_Must rd true = .inl () := rfl
theorem must_no (rd : wire_Reader) : wire_Reader_Must rd false = .inr (6, ()) := rfl
theorem open1_eq (f : Str) : wire_Open_1 ⟨f⟩ [] f = open1 (fun l => i64 (i64 ((f.length : Int) - 4) - l)) ⟨f⟩ [] f := rfl
theorem place_ok (n l : Nat) (h : l + 4 ≤ n) (hn : n ≤ 100000) : i64 (i64 ((n : Int) - 4) - (l : Int)) = (n : Int) - 4 - l := by
  rw [i64_id (n := (n : Int) - 4) (by omega) (by omega), i64_id (by omega) (by omega)]
theorem ltq {α β : Type} (x : α) (f : α → β) : lt x f = f x := rfl
theorem sumL (q : UInt32) (P : Str) : (P ++ wire_sum q).length = P.length + 4 := by rw [List.length_append]; rfl
theorem open1_back (w : Int → Int) (s : Str) (q : UInt32) (hs : s.length ≤ 65536) (hw : w 0 = (([49] ++ (enc 11 s.length ++ s)).length : Int)) (hq : wire_Check ([49] ++ (enc 11 s.length ++ s)) = some q) :
    open1 w ⟨([49] ++ (enc 11 s.length ++ s)) ++ wire_sum q⟩ [] (([49] ++ (enc 11 s.length ++ s)) ++ wire_sum q) = some (.inl (⟨[]⟩, s)) := by
  have e : ([49] ++ (enc 11 s.length ++ s)) ++ wire_sum q = 49 :: (enc 11 s.length ++ (s ++ wire_sum q)) := by simp
  have h4 : (wire_sum q).length = 4 := rfl
  have b := bytes_ok (wire_sum q) [] 4 (by rw [h4]; rfl)
  rw [List.append_nil] at b
  have hsl : sl (([49] ++ (enc 11 s.length ++ s)) ++ wire_sum q) 0 (w 0) = some ([49] ++ (enc 11 s.length ++ s)) := by
    rw [hw, sl_lo (by omega) (by rw [sumL]; omega), Int.toNat_natCast, List.take_left]
  unfold open1
  generalize hP : [49] ++ (enc 11 s.length ++ s) = P at *
  rw [show (⟨P ++ wire_sum q⟩ : wire_Reader) = ⟨49 :: (enc 11 s.length ++ (s ++ wire_sum q))⟩ by rw [e], one_cons 49 _, Option.bind_some]
  dsimp only [sm]
  rw [show gi [(49 : UInt8)] 0 = some 49 from rfl, Option.bind_some, ltq, show ((49 : UInt8) == 49) = true from rfl, must_ok]
  dsimp only [sm]
  rw [text_back s (wire_sum q) 65536 (by omega) (by omega) (by omega), Option.bind_some]
  dsimp only [sm]
  rw [b, Option.bind_some]
  dsimp only [sm]
  rw [show wire_Reader_Left ⟨[]⟩ = 0 from rfl, hsl, Option.bind_some, hq, Option.bind_some, ltq, show (wire_sum q == wire_sum q) = true by simp, must_ok]
theorem frame_back (s : Str) (h : s.length ≤ 65536) : ∃ F, wire_Frame s = some (F, 0) ∧ hawthornref03_Frame s = some F ∧ wire_Open F = some (s, 0) ∧ F.length ≤ s.length + 20 ∧ 5 ≤ F.length ∧ ∃ q, F = ([49] ++ (enc 11 s.length ++ s)) ++ wire_sum q ∧ wire_Check ([49] ++ (enc 11 s.length ++ s)) = some q := by
  have hl := enc_len 11 s.length
  obtain ⟨e1, e2⟩ := text_bytes s (by omega)
  obtain ⟨q, h1, h2⟩ := check_eq ([49] ++ (enc 11 s.length ++ s)) (by simp; omega)
  have h4 : (wire_sum q).length = 4 := rfl
  have h5 : (hawthornref03_Four q).length = 4 := rfl
  have hF : ([49] ++ (enc 11 s.length ++ s)).length ≤ s.length + 12 := by simp; omega
  refine ⟨([49] ++ (enc 11 s.length ++ s)) ++ wire_sum q, ?_, ?_, ?_, by rw [sumL]; omega, by rw [sumL]; simp, q, rfl, h1⟩
  · unfold wire_Frame
    rw [if_neg (by simp; omega), e1, Option.bind_some, if_pos (by simp [maxS]; omega), h1, Option.bind_some, if_pos (by rw [h4]; simp [maxS]; omega)]
  · unfold hawthornref03_Frame
    rw [e2, Option.bind_some, if_pos (by simp [maxS]; omega), h2, Option.bind_some, if_pos (by rw [h5]; simp [maxS]; omega), four_eq]
  · have hlen : ((([49] ++ (enc 11 s.length ++ s)) ++ wire_sum q).length : Int) = (([49] ++ (enc 11 s.length ++ s)).length : Int) + 4 := by rw [sumL]; rfl
    have ho := open1_back (fun l => i64 (i64 ((((([49] ++ (enc 11 s.length ++ s)) ++ wire_sum q).length : Nat) : Int) - 4) - l)) s q h (by
      show i64 (i64 _ - ((0 : Nat) : Int)) = _
      rw [place_ok _ 0 (by rw [sumL]; omega) (by rw [sumL]; omega), hlen]; omega) h1
    unfold wire_Open
    rw [open1_eq, ho, Option.bind_some]
    rfl
theorem frame_long (s : Str) (h : 65536 < s.length) : wire_Frame s = some ([], 3) := by
  unfold wire_Frame
  rw [if_pos (by simp; omega)]
theorem nth31 (x : UInt32) (hx : x.toNat < 2 ^ 31) (y : UInt32) (hy : y.toNat < 2 ^ 31) : x ^^^ 3945912366 ≠ y := fun h => by
  have h1 := congrArg UInt32.toNat h
  rw [UInt32.toNat_xor] at h1
  have h2 := congrArg (fun n => n.testBit 31) h1
  simp only [Nat.testBit_xor, Nat.testBit_lt_two_pow hx, Nat.testBit_lt_two_pow hy] at h2
  exact absurd h2 (by decide)
theorem shr_lt (r : UInt32) : (r >>> (1 : UInt32)).toNat < 2 ^ 31 := by
  have h : r >>> (1 : UInt32) = r / 2 := (half r).symm
  have e : (2 : UInt32).toNat = 2 := by decide
  rw [h, UInt32.toNat_div, e]
  have := r.toNat_lt
  omega
theorem low_bit (r : UInt32) : ((r &&& 1) == 1) = decide (r.toNat % 2 = 1) := by
  rw [Bool.eq_iff_iff, beq_iff_eq, decide_eq_true_iff, ← UInt32.toNat_inj, UInt32.toNat_and]
  have e : (1 : UInt32).toNat = 1 := by decide
  rw [e, Nat.and_one_is_mod]
theorem bit_inj (r t : UInt32) (h : bitStep r = bitStep t) : r = t := by
  have key : ∀ a b : UInt32, a >>> (1 : UInt32) = b >>> (1 : UInt32) → a.toNat % 2 = b.toNat % 2 → a = b := fun a b h1 h2 => by
    apply UInt32.toNat_inj.1
    rw [← half, ← half] at h1
    have h3 := congrArg UInt32.toNat h1
    have e : (2 : UInt32).toNat = 2 := by decide
    rw [UInt32.toNat_div, UInt32.toNat_div, e] at h3
    omega
  unfold bitStep at h
  rw [low_bit, low_bit] at h
  by_cases h1 : r.toNat % 2 = 1 <;> by_cases h2 : t.toNat % 2 = 1 <;> simp only [h1, h2, decide_true, decide_false, if_true, Bool.false_eq_true, if_false] at h
  · exact key _ _ ((UInt32.xor_left_inj _).1 h) (by omega)
  · exact absurd h (nth31 _ (shr_lt _) _ (shr_lt _))
  · exact absurd h.symm (nth31 _ (shr_lt _) _ (shr_lt _))
  · exact key _ _ h (by omega)
def rounds : Nat → UInt32 → UInt32
  | 0, r => r
  | n + 1, r => rounds n (bitStep r)
theorem rounds_inj : ∀ (n : Nat) (r t : UInt32), rounds n r = rounds n t → r = t
  | 0, _, _, h => h
  | n + 1, r, t, h => bit_inj _ _ (rounds_inj n _ _ h)
def crc (r : UInt32) (c : UInt8) : UInt32 := rounds 8 (r ^^^ c.toUInt32)
theorem crc_inj (r t : UInt32) (c : UInt8) (h : crc r c = crc t c) : r = t := (UInt32.xor_left_inj _).1 (rounds_inj _ _ _ h)
theorem crc_byte (r : UInt32) (c d : UInt8) (h : crc r c = crc r d) : c = d := by
  have h1 := (UInt32.xor_right_inj _).1 (rounds_inj _ _ _ h)
  apply UInt8.toNat_inj.1
  have := congrArg UInt32.toNat h1
  simpa using this
theorem fold_inj : ∀ (l : Str) (r t : UInt32), l.foldl crc r = l.foldl crc t → r = t
  | [], _, _, h => h
  | c :: l, r, t, h => crc_inj _ _ c (fold_inj l _ _ h)
theorem inner_rounds : ∀ (n j : Nat) (r : UInt32), n = 8 - j + 1 → j ≤ 8 → wire_Check_l1 n r (j : Int) = some (rounds (8 - j) r) := by
  intro n
  induction n with
  | zero => intro j r h; omega
  | succ n ih =>
    intro j r hn hj
    unfold wire_Check_l1
    by_cases h8 : j < 8
    · have e : decide ((j : Int) < 8) = true := by simp; omega
      have ei : i64 ((j : Int) + 1) = ((j + 1 : Nat) : Int) := by rw [i64_id] <;> omega
      have e8 : 8 - j = (8 - (j + 1)) + 1 := by omega
      rw [if_pos e, sh1, e8]
      unfold rounds bitStep
      split
      · rw [Option.bind_some, ei]; exact ih (j + 1) _ (by omega) (by omega)
      · rw [Option.bind_some, ei]; exact ih (j + 1) _ (by omega) (by omega)
    · obtain rfl : j = 8 := by omega
      rw [if_neg (by decide)]
      rfl
theorem outer_fold (s : Str) (hs : (s.length : Int) ≤ 9223372036854775807) : ∀ (n : Nat) (r : UInt32) (i : Nat), i ≤ s.length → n = s.length - i + 1 →
    wire_Check_l0 s n r (i : Int) = some ((s.drop i).foldl crc r) := by
  intro n
  induction n with
  | zero => intro r i _ h; omega
  | succ n ih =>
    intro r i h1 hn
    unfold wire_Check_l0
    by_cases hi : i < s.length
    · have e : decide ((i : Int) < (s.length : Int)) = true := by simp; omega
      have hc : gi s (i : Int) = some s[i] := by
        unfold gi
        rw [if_pos (by omega)]
        exact List.getElem?_eq_getElem hi
      have h0 : wire_Check_l1 9 (r ^^^ s[i].toUInt32) 0 = some (crc r s[i]) := inner_rounds 9 0 _ rfl (by omega)
      rw [if_pos e, hc, Option.bind_some, h0, Option.bind_some, Option.bind_some, i64_id (by omega) (by omega)]
      have h2 := ih (crc r s[i]) (i + 1) (by omega) (by omega)
      rw [List.drop_eq_getElem_cons hi]
      exact h2
    · have e : ¬ decide ((i : Int) < (s.length : Int)) = true := by simp; omega
      rw [if_neg e, List.drop_of_length_le (by omega)]
      rfl
theorem check_fold (s : Str) (hs : s.length ≤ maxLen) (hm : s.length ≤ 9223372036854775807) : wire_Check s = some (~~~ (s.foldl crc 4294967295)) := by
  unfold wire_Check
  have h := outer_fold s (by omega) (((s.length : Int) - 0).toNat + 1) 4294967295 0 (by omega) (by omega)
  rw [List.drop_zero] at h
  have h' : wire_Check_l0 s (((s.length : Int) - 0).toNat + 1) 4294967295 0 = some (s.foldl crc 4294967295) := h
  rw [if_pos hs, h', Option.bind_some]
theorem check_apart (A B : Str) (x y : UInt8) (hl : (A ++ x :: B).length ≤ 100000) (q : UInt32) (h1 : wire_Check (A ++ x :: B) = some q) (h2 : wire_Check (A ++ y :: B) = some q) : x = y := by
  have e : (A ++ y :: B).length = (A ++ x :: B).length := by simp
  rw [check_fold _ (by simp [maxLen] at hl ⊢; omega) (by omega)] at h1 h2
  have h3 := Option.some.inj (h1.trans h2.symm)
  have h4 := congrArg (fun z => ~~~ z) h3
  simp only [UInt32.not_not, List.foldl_append, List.foldl_cons] at h4
  exact crc_byte _ _ _ (fold_inj _ _ _ h4)
theorem sum_inj (a b : UInt32) (h : wire_sum a = wire_sum b) : a = b := by
  have a8 := shD_nat a 8 8 (by decide)
  have a16 := shD_nat a 16 16 (by decide)
  have a24 := shD_nat a 24 24 (by decide)
  have b8 := shD_nat b 8 8 (by decide)
  have b16 := shD_nat b 16 16 (by decide)
  have b24 := shD_nat b 24 24 (by decide)
  unfold wire_sum at h
  simp only [List.cons.injEq, and_true] at h
  obtain ⟨h0, h1, h2, h3⟩ := h
  have k0 := congrArg UInt8.toNat h0
  have k1 := congrArg UInt8.toNat h1
  have k2 := congrArg UInt8.toNat h2
  have k3 := congrArg UInt8.toNat h3
  rw [UInt32.toNat_toUInt8, UInt32.toNat_toUInt8] at k0 k1 k2 k3
  rw [a8, b8] at k1
  rw [a16, b16] at k2
  rw [a24, b24] at k3
  apply UInt32.toNat_inj.1
  have := a.toNat_lt
  have := b.toNat_lt
  omega
theorem set_split (f : Str) (k : Nat) (y : UInt8) (hk : k < f.length) : f = f.take k ++ f[k] :: f.drop (k + 1) ∧ f.set k y = f.take k ++ y :: f.drop (k + 1) := by
  constructor
  · have := List.take_append_drop k f
    rw [List.drop_eq_getElem_cons hk] at this
    exact this.symm
  · rw [List.set_eq_take_append_cons_drop, if_pos hk]
end Go.Proofs.Ythngfieikhillaa.Pure
