import Derived.Test.YthngfieikhillaaW9
import Derived.Test.YthngfieikhillaaPwireS
import Derived.Test.YthngfieikhillaaPclA
import Derived.Test.YthngfieikhillaaPclT
import Derived.Test.YthngfieikhillaaPsealA
import Derived.Test.YthngfieikhillaaPsealB
import Derived.Test.YthngfieikhillaaPsealC
set_option linter.unusedVariables false
set_option linter.unusedSectionVars false
set_option linter.unusedSimpArgs false
set_option maxRecDepth 100000
set_option maxHeartbeats 8000000

namespace Go.Proofs.Ythngfieikhillaa.Pure
open Go Go.Proofs.Ythngfieikhillaa.Hw Go.Proofs.Ythngfieikhillaa

/-- Records one behind the other. -/
def recs : List api_Record → Str → Prop
  | [], p => p = []
  | x :: l, p => ∃ a b, p = a ++ b ∧ op_PutRecord x = some a ∧ recs l b
theorem recs_snoc : ∀ (l : List api_Record) (x : api_Record) (p a : Str), recs l p → op_PutRecord x = some a → recs (l ++ [x]) (p ++ a)
  | [], x, p, a, h, e => by
    obtain rfl : p = [] := h
    exact ⟨a, [], by simp, e, rfl⟩
  | y :: l, x, p, a, h, e => by
    obtain ⟨c, d, rfl, e2, h2⟩ := h
    exact ⟨c, d ++ a, by simp, e2, recs_snoc l x d a h2 e⟩
theorem rec_loop (n0 : Nat) (hn0 : n0 ≤ 100) : ∀ (f k : Nat) (l : List api_Record) (n : UInt64) (s q : Str), n.toNat = k → f = k + 1 → l.length + k = n0 → s.length ≤ 10000 → recs l q →
    (∃ l' t p, say_takeRecords_l0 f l n s = some (.inl (l', t)) ∧ s = p ++ t ∧ recs l' (q ++ p) ∧ l'.length = n0) ∨ ∃ e o, say_takeRecords_l0 f l n s = some (.inr (.inr (e, o))) ∧ e ≠ 0 := by
  intro f
  induction f with
  | zero => intro k l n s q h1 h2; omega
  | succ f ih =>
    intro k l n s q h1 h2 h3 h4 h5
    unfold say_takeRecords_l0
    by_cases hk : 0 < k
    · rw [if_pos (by rw [decide_eq_true_eq, UInt64.lt_iff_toNat_lt, h1]; simpa using hk)]
      rcases rd_record s h4 with ⟨x, t, p, e1, e2, e3⟩ | ⟨e, o, e1, he⟩
      · rw [e1, Option.bind_some]
        dsimp only [sm]
        have ha : apd 88 l [x] = some (l ++ [x]) := by
          unfold apd
          rw [if_pos]
          have : (l.length + [x].length) * 88 ≤ 101 * 88 := Nat.mul_le_mul_right _ (by simp; omega)
          omega
        have hn : (n - 1).toNat = k - 1 := by
          have e0 : (1 : UInt64).toNat = 1 := by decide
          rw [UInt64.toNat_sub_of_le _ _ (by rw [UInt64.le_iff_toNat_le]; omega), e0, h1]
        have L := congrArg List.length e2
        simp only [ge0] at L
        rw [ha, Option.bind_some]
        rcases ih (k - 1) (l ++ [x]) (n - 1) t (q ++ p) hn (by omega) (by simp; omega) (by omega) (recs_snoc l x q p h5 e3) with ⟨l', t', p', a1, a2, a3, a4⟩ | h
        · exact .inl ⟨l', t', p ++ p', a1, by rw [e2, a2]; simp, by rw [← List.append_assoc]; exact a3, a4⟩
        · exact .inr h
      · rw [e1, Option.bind_some]
        exact .inr ⟨e, o, rfl, he⟩
    · rw [if_neg (by rw [decide_eq_true_eq, UInt64.lt_iff_toNat_lt, h1]; simpa using hk)]
      exact .inl ⟨l, s, [], rfl, rfl, by rw [List.append_nil]; exact h5, by omega⟩
theorem rd_records (s : Str) (hs : s.length ≤ 10000) : Rd (say_takeRecords ⟨s⟩) s (fun l p => ∃ r, p = enc 11 (toW (l.length : Int)).toNat ++ r ∧ recs l r ∧ l.length ≤ 16) := by
  unfold say_takeRecords
  refine rd_bind (rd_num s _) fun n1 t1 p1 e1 q1 => ?_
  have m : (16 : UInt64).toNat = 16 := by decide
  have b1 : n1.toNat ≤ 16 := by have := UInt64.le_iff_toNat_le.1 q1.1; omega
  have L := congrArg List.length e1
  simp only [ge0] at L
  dsimp only
  rcases rec_loop n1.toNat (by omega) (n1.toNat + 1) n1.toNat [] n1 t1 [] rfl rfl (by simp) (by omega) rfl with ⟨l', t, p, a1, a2, a3, a4⟩ | ⟨e, o, a1, he⟩
  · rw [a1, Option.bind_some]
    refine .inl ⟨l', t, p, rfl, a2, p, ?_, a3, by omega⟩
    rw [q1.2, a4]
    have : toW ((n1.toNat : Nat) : Int) = n1 := by
      apply UInt64.toNat_inj.1; rw [toW_big _ (by omega)]
    rw [this]
  · rw [a1, Option.bind_some]
    exact .inr ⟨e, o, rfl, he⟩
theorem put_recs (l : List api_Record) : ∀ (f i : Nat) (s r : Str), f = l.length - i + 1 → i ≤ l.length → l.length ≤ 100 → recs (l.drop i) r → s.length + r.length ≤ 10000 → say_list_api_Record_f84_l0 l f s (i : Int) = some (s ++ r) := by
  intro f
  induction f with
  | zero => intro i s r h; omega
  | succ f ih =>
    intro i s r hf hi hl hr hs
    unfold say_list_api_Record_f84_l0
    by_cases h : i < l.length
    · rw [List.drop_eq_getElem_cons h] at hr
      obtain ⟨a, b, rfl, e1, h2⟩ := hr
      simp only [ge0] at hs
      rw [if_pos (by simpa using h), giL h, Option.bind_some, e1, Option.bind_some, if_pos (by simp only [maxS]; omega), i64s _ (by omega) (by omega)]
      have := ih (i + 1) (s ++ a) b (by omega) (by omega) hl h2 (by simp only [ge0]; omega)
      rw [show (i : Int) + 1 = ((i + 1 : Nat) : Int) by omega, this, List.append_assoc]
    · rw [List.drop_eq_nil_of_le (by omega)] at hr
      obtain rfl : r = [] := hr
      rw [if_neg (by simpa using h), List.append_nil]
theorem put_list (l : List api_Record) (r : Str) (hl : l.length ≤ 100) (hr : recs l r) (hs : r.length ≤ 9000) : say_list_api_Record_f84 l = some (enc 11 (toW (l.length : Int)).toNat ++ r) := by
  have l1 := enc_len 11 (toW (l.length : Int)).toNat
  have := put_recs l (((l.length : Int) - 0).toNat + 1) 0 (enc 11 (toW (l.length : Int)).toNat) r (by omega) (by omega) hl hr (by omega)
  have this : say_list_api_Record_f84_l0 l (((l.length : Int) - 0).toNat + 1) (enc 11 (toW (l.length : Int)).toNat) 0 = _ := this
  unfold say_list_api_Record_f84
  rw [num_c, Option.bind_some, this, Option.bind_some]
/-! sums -/
theorem sum_loop : ∀ (f k : Nat) (l : List Str) (s q : Str), f = 16 - k + 1 → k ≤ 16 → l.length = k → l.flatten = q →
    (∃ l' t p, say_take_l0 f (k : Int) l s = some (.inl (l', t)) ∧ s = p ++ t ∧ l'.flatten = q ++ p ∧ l'.length = 16) ∨ ∃ e o, say_take_l0 f (k : Int) l s = some (.inr (.inr (.inr (.inr (.inr (.inr (.inr (.inr (.inr (.inr (.inr (.inr (e, o))))))))))))) ∧ e ≠ 0 := by
  intro f
  induction f with
  | zero => intro k l s q h1 h2; omega
  | succ f ih =>
    intro k l s q h1 h2 h3 h4
    unfold say_take_l0
    by_cases hk : k < 16
    · rw [if_pos (by simp; omega)]
      rcases rd_bytes s 32 32 rfl with ⟨x, t, p, e1, e2, e3⟩ | ⟨e, o, e1, he⟩
      · rw [e1, Option.bind_some]
        dsimp only [sm]
        have ha : apd 16 l [x] = some (l ++ [x]) := by
          unfold apd
          rw [if_pos]
          have : (l.length + [x].length) * 16 ≤ 101 * 16 := Nat.mul_le_mul_right _ (by simp; omega)
          omega
        rw [ha, Option.bind_some, i64s _ (by omega) (by omega)]
        rcases ih (k + 1) (l ++ [x]) t (q ++ p) (by omega) (by omega) (by simp; omega) (by simp [h4, e3.1]) with ⟨l', t', p', a1, a2, a3, a4⟩ | h
        · exact .inl ⟨l', t', p ++ p', a1, by rw [e2, a2]; simp, by rw [← List.append_assoc]; exact a3, a4⟩
        · exact .inr h
      · rw [e1, Option.bind_some]
        exact .inr ⟨e, o, rfl, he⟩
    · rw [if_neg (by simp; omega)]
      exact .inl ⟨l, s, [], rfl, rfl, by rw [List.append_nil]; exact h4, by omega⟩
theorem put_sums (x : api_Say) (hl : x.Sums.length ≤ 100) : ∀ (f i : Nat) (s : Str), f = x.Sums.length - i + 1 → i ≤ x.Sums.length → s.length + (x.Sums.drop i).flatten.length ≤ 10000 → say_Put_l0 x f s (i : Int) = some (s ++ (x.Sums.drop i).flatten) := by
  intro f
  induction f with
  | zero => intro i s h; omega
  | succ f ih =>
    intro i s hf hi hs
    unfold say_Put_l0
    by_cases h : i < x.Sums.length
    · rw [List.drop_eq_getElem_cons h, List.flatten_cons] at hs ⊢
      simp only [ge0] at hs
      rw [if_pos (by simpa using h), giL h, Option.bind_some, if_pos (by simp only [maxS]; omega), i64s _ (by omega) (by omega)]
      have := ih (i + 1) (s ++ x.Sums[i]) (by omega) (by omega) (by simp only [ge0]; omega)
      rw [show (i : Int) + 1 = ((i + 1 : Nat) : Int) by omega, this, List.append_assoc]
    · rw [List.drop_eq_nil_of_le (by omega)]
      rw [if_neg (by simpa using h)]; simp
end Go.Proofs.Ythngfieikhillaa.Pure
