import Derived.Test.YtlahbmoebbflbaaW6
set_option linter.unusedVariables false
set_option linter.unusedSectionVars false
set_option linter.unusedSimpArgs false
set_option maxRecDepth 100000
set_option maxHeartbeats 8000000

namespace Go.Proofs.Ytlahbmoebbflbaa.Pure
open Go Go.Proofs.Ytlahbmoebbflbaa.Hw Go.Proofs.Ytlahbmoebbflbaa

/-! places: the code's and the document's -/

theorem shr_nat (a : UInt64) (n : Int) (k : Nat) (h : min n.toNat 64 = k) : (shWr a n).toNat = a.toNat / 2 ^ k := by
  unfold shWr
  rw [h, UInt64.toNat_ofNat', Nat.mod_eq_of_lt (Nat.lt_of_le_of_lt (Nat.div_le_self _ _) a.toNat_lt)]
theorem shl_nat (a : UInt64) (n : Int) (k : Nat) (h : min n.toNat 64 = k) : (shWl a n).toNat = a.toNat * 2 ^ k % 2 ^ 64 := by
  unfold shWl
  rw [h, UInt64.toNat_ofNat']
theorem c32 : (4294967296 : UInt64).toNat = 4294967296 := by decide
theorem shr32 (a : UInt64) : shWr a ((32 : UInt64).toNat : Int) = a / 4294967296 := by
  apply UInt64.toNat_inj.1
  rw [shr_nat a _ 32 (by decide), UInt64.toNat_div, c32]
theorem and32 (a : UInt64) : a &&& 4294967295 = a % 4294967296 := by
  apply UInt64.toNat_inj.1
  have e : (4294967295 : UInt64).toNat = 2 ^ 32 - 1 := by decide
  rw [UInt64.toNat_and, UInt64.toNat_mod, c32, e, Nat.and_two_pow_sub_one_eq_mod]

theorem rot_alg (n p q : Nat) (hp : 0 < p) (hq : 0 < q) (hn : n < 2 * (p * q)) :
    ((n * p % (2 * (p * q)) + n / (2 * q)) * 2) % (2 * (p * q)) + (n * p % (2 * (p * q)) + n / (2 * q)) / (p * q) = n * (2 * p) % (2 * (p * q)) + n / q := by
  have h1 := Nat.div_add_mod n (2 * q)
  have hb := Nat.mod_lt n (show 0 < 2 * q by omega)
  have ha : n / (2 * q) < p := Nat.div_lt_of_lt_mul (by rw [show 2 * q * p = 2 * (p * q) by rw [Nat.mul_assoc, Nat.mul_comm q p]]; exact hn)
  generalize n / (2 * q) = a at *
  generalize n % (2 * q) = b at *
  have h2 := Nat.div_add_mod b q
  have hd := Nat.mod_lt b hq
  have hc : b / q < 2 := Nat.div_lt_of_lt_mul (by rw [Nat.mul_comm]; exact hb)
  generalize b / q = c at *
  generalize b % q = d at *
  subst h2
  subst h1
  have e1 : (2 * q * a + (q * c + d)) * p = 2 * (p * q) * a + (q * c + d) * p := by
    rw [Nat.add_mul]; congr 1
    rw [Nat.mul_assoc 2 q a, Nat.mul_assoc 2, Nat.mul_assoc 2 (p * q), Nat.mul_comm p q, Nat.mul_assoc q a p, Nat.mul_comm a p, Nat.mul_assoc q p a]
  have hbp : (q * c + d) * p < 2 * (p * q) := by
    have : (q * c + d + 1) * p ≤ 2 * q * p := Nat.mul_le_mul_right _ hb
    rw [Nat.add_mul, Nat.one_mul] at this
    rw [show 2 * (p * q) = 2 * q * p by rw [Nat.mul_assoc, Nat.mul_comm q p]]
    omega
  rw [e1, Nat.mul_add_mod, Nat.mod_eq_of_lt hbp]
  have hda : d * p + a < p * q := by
    have : (d + 1) * p ≤ q * p := Nat.mul_le_mul_right _ hd
    rw [Nat.add_mul, Nat.one_mul, Nat.mul_comm q p] at this
    omega
  have e2 : (q * c + d) * p + a = p * q * c + (d * p + a) := by
    rw [Nat.add_mul, Nat.add_assoc]; congr 1
    rw [Nat.mul_comm q c, Nat.mul_assoc, Nat.mul_comm q p, Nat.mul_comm]
  have hpq : 0 < p * q := Nat.mul_pos hp hq
  rw [e2, Nat.mul_add_div hpq, Nat.div_eq_of_lt hda]
  have e3 : (p * q * c + (d * p + a)) * 2 = 2 * (p * q) * c + 2 * (d * p + a) := by
    rw [Nat.add_mul, Nat.mul_comm (p * q * c) 2, ← Nat.mul_assoc, Nat.mul_comm (d * p + a) 2]
  rw [e3, Nat.mul_add_mod, Nat.mod_eq_of_lt (by omega)]
  have e4 : (2 * q * a + (q * c + d)) = q * (2 * a + c) + d := by
    rw [Nat.mul_add, Nat.add_assoc]; congr 1
    rw [Nat.mul_comm 2 q, Nat.mul_assoc]
  rw [e4, Nat.mul_add_div hq, Nat.div_eq_of_lt hd]
  have e5 : (q * (2 * a + c) + d) * (2 * p) = 2 * (p * q) * (2 * a + c) + d * (2 * p) := by
    rw [Nat.add_mul]; congr 1
    rw [Nat.mul_comm q, Nat.mul_assoc, Nat.mul_comm (2 * a + c)]
    congr 1
    rw [← Nat.mul_assoc, Nat.mul_comm q 2, Nat.mul_assoc, Nat.mul_comm q p]
  have e6 : d * (2 * p) < 2 * (p * q) := by
    have : d * p < p * q := by omega
    rw [Nat.mul_comm d, Nat.mul_assoc, Nat.mul_comm p d]; omega
  rw [e5, Nat.mul_add_mod, Nat.mod_eq_of_lt e6, Nat.mul_comm d (2 * p), Nat.mul_assoc, Nat.mul_comm p d]
  omega

def rot (k n : Nat) : Nat := n * 2 ^ k % 2 ^ 64 + n / 2 ^ (64 - k)
theorem rot_step (n k : Nat) (hn : n < 2 ^ 64) (hk : k < 64) : (rot k n * 2) % 2 ^ 64 + rot k n / 2 ^ 63 = rot (k + 1) n := by
  have hp : 0 < 2 ^ k := Nat.pow_pos (by decide)
  have hq : 0 < 2 ^ (63 - k) := Nat.pow_pos (by decide)
  have e0 : 2 ^ 63 = 2 ^ k * 2 ^ (63 - k) := by rw [← Nat.pow_add]; congr 1; omega
  have e1 : (2 : Nat) ^ 64 = 2 * (2 ^ k * 2 ^ (63 - k)) := by rw [← e0]
  have e2 : (2 : Nat) ^ (64 - k) = 2 * 2 ^ (63 - k) := by rw [show 64 - k = 1 + (63 - k) by omega, Nat.pow_add]
  have e3 : 64 - (k + 1) = 63 - k := by omega
  have e4 : (2 : Nat) ^ (k + 1) = 2 * 2 ^ k := by rw [Nat.add_comm, Nat.pow_add]
  have := rot_alg n (2 ^ k) (2 ^ (63 - k)) hp hq (by rw [← e1]; exact hn)
  unfold rot
  rw [e3, e4, e2, e0, e1]
  exact this
theorem rot_lt (n k : Nat) (hn : n < 2 ^ 64) (hk : k < 64) : rot k n < 2 ^ 64 := by
  have hq : 0 < 2 ^ (64 - k) := Nat.pow_pos (by decide)
  have e1 : (2 : Nat) ^ 64 = 2 ^ k * 2 ^ (64 - k) := by rw [← Nat.pow_add]; congr 1; omega
  unfold rot
  have h1 := Nat.div_add_mod n (2 ^ (64 - k))
  have hb := Nat.mod_lt n hq
  have ha : n / 2 ^ (64 - k) < 2 ^ k := Nat.div_lt_of_lt_mul (by rw [Nat.mul_comm, ← e1]; exact hn)
  rw [e1]
  generalize n / 2 ^ (64 - k) = a at *
  generalize n % 2 ^ (64 - k) = b at *
  generalize 2 ^ (64 - k) = q at *
  generalize 2 ^ k = p at *
  subst h1
  have e2 : (q * a + b) * p = p * q * a + b * p := by
    rw [Nat.add_mul]; congr 1
    rw [Nat.mul_comm p q, Nat.mul_assoc, Nat.mul_assoc, Nat.mul_comm a p]
  have hbp : (b + 1) * p ≤ q * p := Nat.mul_le_mul_right _ hb
  rw [Nat.add_mul, Nat.one_mul, Nat.mul_comm q p] at hbp
  rw [e2, Nat.mul_add_mod, Nat.mod_eq_of_lt (by omega)]
  omega
theorem turn_loop (n : UInt64) : ∀ (f j : Nat) (m : UInt64), f = 29 - j + 1 → j ≤ 29 → m.toNat = rot j n.toNat → ∃ q, hawthornref01_turn_l0 29 f m (j : Int) = some q ∧ q.toNat = rot 29 n.toNat := by
  intro f
  induction f with
  | zero => intro j m h; omega
  | succ f ih =>
    intro j m hf hj hm
    unfold hawthornref01_turn_l0
    by_cases h : j < 29
    · have e : decide ((j : Int) < 29) = true := by simp; omega
      have ei : i64 ((j : Int) + 1) = ((j + 1 : Nat) : Int) := by rw [i64_id] <;> omega
      rw [if_pos e, ei]
      refine ih (j + 1) _ (by omega) (by omega) ?_
      have e2 : (2 : UInt64).toNat = 2 := by decide
      have e63 : (9223372036854775808 : UInt64).toNat = 2 ^ 63 := by decide
      have hlt := rot_lt n.toNat j n.toNat_lt (by omega)
      have hst := rot_step n.toNat j n.toNat_lt (by omega)
      have hlt2 := rot_lt n.toNat (j + 1) n.toNat_lt (by omega)
      rw [UInt64.toNat_add, UInt64.toNat_mul, UInt64.toNat_div, e2, e63, hm, hst, Nat.mod_eq_of_lt hlt2]
    · obtain rfl : j = 29 := by omega
      rw [if_neg (by decide)]
      exact ⟨m, rfl, hm⟩
theorem turn29 (n : UInt64) : hawthornref01_turn n 29 = some (bits_RotateLeft64 n 29) := by
  obtain ⟨q, h1, h2⟩ := turn_loop n 30 0 n rfl (by omega) (by unfold rot; simp [Nat.mod_eq_of_lt n.toNat_lt, Nat.div_eq_of_lt n.toNat_lt])
  unfold hawthornref01_turn
  have h1' : hawthornref01_turn_l0 29 (((29 : Int) - 0).toNat + 1) n 0 = some q := h1
  rw [h1', Option.bind_some]
  congr 1
  apply UInt64.toNat_inj.1
  unfold bits_RotateLeft64
  have hl := shl_nat n ((((toW 29) &&& 63).toNat : Nat) : Int) 29 (by decide)
  have hr := shr_nat n (((64 - ((toW 29) &&& 63)).toNat : Nat) : Int) 35 (by decide)
  rw [h2, UInt64.toNat_or, hl, hr]
  unfold rot
  have hlt : n.toNat / 2 ^ 35 < 2 ^ 29 := Nat.div_lt_of_lt_mul (by have := n.toNat_lt; omega)
  have e : n.toNat * 2 ^ 29 % 2 ^ 64 = 2 ^ 29 * (n.toNat % 2 ^ 35) := by
    rw [show (2 : Nat) ^ 64 = 2 ^ 29 * 2 ^ 35 by decide, Nat.mul_comm, Nat.mul_mod_mul_left]
  rw [e, Nat.two_pow_add_eq_or_of_lt hlt]
theorem mix_same (n : UInt64) : hawthornref01_Mix n = some (mix_Mix n) := by
  unfold hawthornref01_Mix mix_Mix
  rw [turn29, Option.bind_some, shr32, shr32]
theorem high_same (a b : UInt64) : (bits_Mul64 a b).1 = hawthornref01_high a b := by
  unfold bits_Mul64 hawthornref01_high
  simp only [shr32, and32]
  rw [UInt64.add_comm (_ % 4294967296) (_ * _)]
theorem high_lt (a b : UInt64) (hb : 0 < b.toNat) : (hawthornref01_high a b).toNat < b.toNat := by
  have key : ∀ x1 x0 y1 y0 : Nat, x1 < 4294967296 → x0 < 4294967296 → y1 < 4294967296 → y0 < 4294967296 → 0 < y1 * 4294967296 + y0 →
      x1 * y0 + x0 * y0 / 4294967296 < 18446744073709551616 ∧ x0 * y1 + (x1 * y0 + x0 * y0 / 4294967296) % 4294967296 < 18446744073709551616 ∧
      x1 * y1 + (x1 * y0 + x0 * y0 / 4294967296) / 4294967296 + (x0 * y1 + (x1 * y0 + x0 * y0 / 4294967296) % 4294967296) / 4294967296 < y1 * 4294967296 + y0 := by
    intro x1 x0 y1 y0 h1 h2 h3 h4 hpos
    have m1 : x1 * y0 ≤ 4294967295 * 4294967295 := Nat.mul_le_mul (by omega) (by omega)
    have m2 : x0 * y0 ≤ 4294967295 * 4294967295 := Nat.mul_le_mul (by omega) (by omega)
    have m3 : x0 * y1 ≤ 4294967295 * 4294967295 := Nat.mul_le_mul (by omega) (by omega)
    refine ⟨by omega, by omega, ?_⟩
    -- the product, taken apart
    have hxy : (x1 * 4294967296 + x0 + 1) * (y1 * 4294967296 + y0) ≤ 18446744073709551616 * (y1 * 4294967296 + y0) := Nat.mul_le_mul_right _ (by omega)
    have hex : (x1 * 4294967296 + x0 + 1) * (y1 * 4294967296 + y0) = (x1 * y1) * 18446744073709551616 + (x1 * y0) * 4294967296 + (x0 * y1) * 4294967296 + x0 * y0 + (y1 * 4294967296 + y0) := by
      rw [Nat.add_mul, Nat.add_mul, Nat.one_mul, Nat.mul_add, Nat.mul_add]
      have e1 : x1 * 4294967296 * (y1 * 4294967296) = x1 * y1 * 18446744073709551616 := by
        rw [Nat.mul_assoc, Nat.mul_left_comm 4294967296 y1, ← Nat.mul_assoc]
      have e2 : x1 * 4294967296 * y0 = x1 * y0 * 4294967296 := by rw [Nat.mul_assoc, Nat.mul_comm 4294967296, ← Nat.mul_assoc]
      have e3 : x0 * (y1 * 4294967296) = x0 * y1 * 4294967296 := by rw [Nat.mul_assoc]
      rw [e1, e2, e3]
      omega
    rw [hex] at hxy
    generalize x1 * y1 = p11 at *
    generalize x1 * y0 = p10 at *
    generalize x0 * y1 = p01 at *
    generalize x0 * y0 = p00 at *
    omega
  have ha := a.toNat_lt
  have hb2 := b.toNat_lt
  obtain ⟨k1, k2, k3⟩ := key (a.toNat / 4294967296) (a.toNat % 4294967296) (b.toNat / 4294967296) (b.toNat % 4294967296) (by omega) (by omega) (by omega) (by omega) (by omega)
  unfold hawthornref01_high
  have m11 : a.toNat / 4294967296 * (b.toNat / 4294967296) ≤ 4294967295 * 4294967295 := Nat.mul_le_mul (by omega) (by omega)
  have m10 : a.toNat / 4294967296 * (b.toNat % 4294967296) ≤ 4294967295 * 4294967295 := Nat.mul_le_mul (by omega) (by omega)
  have m01 : a.toNat % 4294967296 * (b.toNat / 4294967296) ≤ 4294967295 * 4294967295 := Nat.mul_le_mul (by omega) (by omega)
  have m00 : a.toNat % 4294967296 * (b.toNat % 4294967296) ≤ 4294967295 * 4294967295 := Nat.mul_le_mul (by omega) (by omega)
  simp only [UInt64.toNat_add, UInt64.toNat_mul, UInt64.toNat_div, UInt64.toNat_mod, c32]
  generalize a.toNat / 4294967296 * (b.toNat / 4294967296) = p11 at *
  generalize a.toNat / 4294967296 * (b.toNat % 4294967296) = p10 at *
  generalize a.toNat % 4294967296 * (b.toNat / 4294967296) = p01 at *
  generalize a.toNat % 4294967296 * (b.toNat % 4294967296) = p00 at *
  omega
theorem of_loop (s : Str) (hs : s.length ≤ 100000) : ∀ (n : Nat) (h : UInt64) (i : Nat), i ≤ s.length → n = s.length - i + 1 →
    ∃ q, mix_Of_l0 s n h (i : Int) = some q ∧ hawthornref01_Of_l0 s n h (i : Int) = some q := by
  intro n
  induction n with
  | zero => intro h i _ h2; omega
  | succ n ih =>
    intro h i hi hn
    unfold mix_Of_l0 hawthornref01_Of_l0
    by_cases hl : i < s.length
    · have e : decide ((i : Int) < (s.length : Int)) = true := by simp; omega
      have hg : gi s (i : Int) = some s[i] := by
        unfold gi
        rw [if_pos (by omega)]
        exact List.getElem?_eq_getElem hl
      have ei : i64 ((i : Int) + 1) = ((i + 1 : Nat) : Int) := by rw [i64_id] <;> omega
      rw [if_pos e, if_pos e, hg, Option.bind_some, Option.bind_some, ei]
      exact ih _ (i + 1) (by omega) (by omega)
    · have e : ¬ decide ((i : Int) < (s.length : Int)) = true := by simp; omega
      rw [if_neg e, if_neg e]
      exact ⟨h, rfl, rfl⟩
theorem of_same (seed : UInt64) (s : Str) (hs : s.length ≤ 100000) : ∃ q, mix_Of seed s = some q ∧ hawthornref01_Of seed s = some q := by
  obtain ⟨q, h1, h2⟩ := of_loop s hs (((s.length : Int) - 0).toNat + 1) (14695981039346656037 ^^^ (mix_Mix seed)) 0 (by omega) (by omega)
  have h1' : mix_Of_l0 s (((s.length : Int) - 0).toNat + 1) (14695981039346656037 ^^^ (mix_Mix seed)) 0 = some q := h1
  have h2' : hawthornref01_Of_l0 s (((s.length : Int) - 0).toNat + 1) (14695981039346656037 ^^^ (mix_Mix seed)) 0 = some q := h2
  refine ⟨mix_Mix (q ^^^ (toW (s.length : Int))), ?_, ?_⟩
  · unfold mix_Of
    rw [if_pos (by simp [maxLen]; omega), h1', Option.bind_some]
  · unfold hawthornref01_Of
    rw [mix_same, Option.bind_some, h2', Option.bind_some, mix_same, Option.bind_some]
theorem lt_eq {α β : Type} (x : α) (f : α → β) : lt x f = f x := rfl
theorem i64_u (q : UInt64) (size : Nat) (h : q.toNat < size) (h2 : size ≤ 100000) : i64 ((q.toNat : Nat) : Int) = ((q.toNat : Nat) : Int) := by
  generalize q.toNat = k at h ⊢
  exact i64_id (by omega) (by omega)
theorem place_same (h : UInt64) (row : Int) (size : Nat) (h1 : 1 ≤ size) (h2 : size ≤ 100000) : ∃ p : Nat, mix_Place h row (size : Int) = (p : Int) ∧ hawthornref01_Place h row (size : Int) = some (p : Int) ∧ p < size := by
  have hw : (toW (size : Int)).toNat = size := by
    unfold toW
    rw [UInt64.toNat_ofNat']
    omega
  have hlt := high_lt (mix_Mix (h + ((toW row) * 11400714819323198485))) (toW (size : Int)) (by omega)
  rw [hw] at hlt
  have e : ¬ decide ((size : Int) < 1) = true := by simp; omega
  refine ⟨(hawthornref01_high (mix_Mix (h + ((toW row) * 11400714819323198485))) (toW (size : Int))).toNat, ?_, ?_, hlt⟩
  · unfold mix_Place
    rw [if_neg e]
    rw [lt_eq, high_same]
    generalize (hawthornref01_high (mix_Mix (h + ((toW row) * 11400714819323198485))) (toW (size : Int))) = q at hlt ⊢
    exact i64_u q size hlt h2
  · unfold hawthornref01_Place
    rw [if_neg e, mix_same, Option.bind_some]
    generalize (hawthornref01_high (mix_Mix (h + ((toW row) * 11400714819323198485))) (toW (size : Int))) = q at hlt ⊢
    rw [i64_u q size hlt h2]
end Go.Proofs.Ytlahbmoebbflbaa.Pure
