import Derived.Test.YthngfieikhillaaW9
import Derived.Test.YthngfieikhillaaPwireS
import Derived.Test.YthngfieikhillaaPclA
import Derived.Test.YthngfieikhillaaPclT
set_option linter.unusedVariables false
set_option linter.unusedSectionVars false
set_option linter.unusedSimpArgs false
set_option maxRecDepth 100000
set_option maxHeartbeats 8000000

namespace Go.Proofs.Ythngfieikhillaa.Pure
open Go Go.Proofs.Ythngfieikhillaa.Hw Go.Proofs.Ythngfieikhillaa

/-! what readers come to, whatever the bytes: something and its bytes, or an error -/
def Rd {α : Type} (R : Option ((α × wire_Reader) ⊕ (Int × wire_Reader))) (s : Str) (Q : α → Str → Prop) : Prop :=
  (∃ x t p, R = some (.inl (x, ⟨t⟩)) ∧ s = p ++ t ∧ Q x p) ∨ ∃ e o, R = some (.inr (e, o)) ∧ e ≠ 0
theorem rd_bind {α β : Type} {G : Option ((α × wire_Reader) ⊕ (Int × wire_Reader))} {K : α × wire_Reader → Option ((β × wire_Reader) ⊕ (Int × wire_Reader))} {s : Str} {QG : α → Str → Prop} {Q : β → Str → Prop} (h : Rd G s QG)
    (k : ∀ x t p, s = p ++ t → QG x p → Rd (K (x, ⟨t⟩)) t (fun y q => Q y (p ++ q))) : Rd (G.bind fun r => sm r K fun ((n, o) : Int × wire_Reader) => some (.inr (n, o))) s Q := by
  rcases h with ⟨x, t, p, rfl, e, q⟩ | ⟨e, o, rfl, he⟩
  · rcases k x t p e q with ⟨y, t', p', e1, e2, q2⟩ | ⟨e', o', e1, he⟩
    · refine .inl ⟨y, t', p ++ p', ?_, by rw [e, e2, List.append_assoc], q2⟩
      rw [Option.bind_some]; exact e1
    · refine .inr ⟨e', o', ?_, he⟩
      rw [Option.bind_some]; exact e1
  · exact .inr ⟨e, o, rfl, he⟩
theorem rd_ok {α : Type} {x : α} {t : Str} {Q : α → Str → Prop} (q : Q x []) : Rd (some (.inl (x, ⟨t⟩))) t Q := .inl ⟨x, t, [], rfl, rfl, q⟩
theorem rd_err {α : Type} {e : Int} {o : wire_Reader} {t : Str} {Q : α → Str → Prop} (h : e ≠ 0) : Rd (some (.inr (e, o)) : Option ((α × wire_Reader) ⊕ (Int × wire_Reader))) t Q := .inr ⟨e, o, rfl, h⟩
theorem Rd.mono {α : Type} {R : Option ((α × wire_Reader) ⊕ (Int × wire_Reader))} {s : Str} {Q Q' : α → Str → Prop} (h : Rd R s Q) (k : ∀ x p t, s = p ++ t → Q x p → Q' x p) : Rd R s Q' := by
  rcases h with ⟨x, t, p, e, e2, q⟩ | h
  · exact .inl ⟨x, t, p, e, e2, k x p t e2 q⟩
  · exact .inr h
theorem nil_bytes : wire_Reader_Bytes ⟨[]⟩ 1 = some (.inr (4, ⟨[]⟩)) := rfl
theorem num_inv : ∀ (k j : Nat) (n : UInt64) (s : Str), j ≤ 9 → k = 10 - j → n.toNat < 2 ^ (7 * j) →
    (∃ m t v, wire_Reader_Num_l0 (k + 1) n (j : Int) s = some (.inl (m, t)) ∧ (∀ g, k + 1 ≤ g → s = enc g v ++ t) ∧ m.toNat = n.toNat + v * 2 ^ (7 * j) ∧ (0 < j → 0 < v)) ∨
    ∃ e o, wire_Reader_Num_l0 (k + 1) n (j : Int) s = some (.inr (.inr (e, o))) ∧ e ≠ 0 := by
  intro k
  induction k with
  | zero => intro j n s h1 h2; omega
  | succ k ih =>
    intro j n s hj hk hn
    cases s with
    | nil =>
      right
      unfold wire_Reader_Num_l0
      rw [if_pos (by simp; omega), nil_bytes, Option.bind_some]
      exact ⟨4, ⟨[]⟩, rfl, by decide⟩
    | cons c tl =>
      cases hb : ((((j : Int) == 9) && decide (1 < c)) || (decide (0 < (j : Int)) && (c == 0))) with
      | true =>
        right
        unfold wire_Reader_Num_l0
        rw [if_pos (by simp; omega), one_cons c tl, Option.bind_some]
        dsimp only [sm]
        rw [show gi [c] 0 = some c from rfl, Option.bind_some, hb, if_pos rfl]
        exact ⟨6, ⟨tl⟩, rfl, by decide⟩
      | false =>
        have hb2 := hb
        rw [Bool.or_eq_false_iff] at hb2
        have h9 : j = 9 → c.toNat ≤ 1 := fun e => by
          have h1 := hb2.1
          rw [show ((j : Int) == 9) = true by simp; omega, Bool.true_and] at h1
          have : ¬ (1 < c) := by simpa using h1
          rw [UInt8.lt_iff_toNat_lt] at this
          have e0 : (1 : UInt8).toNat = 1 := by decide
          omega
        have h0 : 0 < j → c.toNat ≠ 0 := fun e h => by
          have h1 := hb2.2
          rw [show decide (0 < (j : Int)) = true by simp; omega, Bool.true_and] at h1
          have : c ≠ 0 := by simpa using h1
          exact this (UInt8.toNat_inj.1 (by rw [h]; rfl))
        obtain ⟨v1, v2⟩ := digit_val n (UInt64.ofNat (2 ^ (7 * j))) c j hj hn (unit_of j hj) h9
        have e128 : (128 : UInt8).toNat = 128 := by decide
        rw [one_round (k + 1) j n c tl (by omega) hb, v1]
        by_cases hc : c < 128
        · have hc' : c.toNat < 128 := by rw [UInt8.lt_iff_toNat_lt] at hc; omega
          left
          rw [if_pos (by simpa using hc)]
          refine ⟨_, tl, c.toNat, rfl, fun g hg => ?_, by rw [v2, Nat.mod_eq_of_lt hc'], fun e => Nat.pos_of_ne_zero (h0 e)⟩
          obtain ⟨g, rfl⟩ : ∃ g', g = g' + 1 := ⟨g - 1, by omega⟩
          unfold enc
          rw [if_pos hc', UInt8.ofNat_toNat]; rfl
        · have hc' : 128 ≤ c.toNat := by rw [UInt8.lt_iff_toNat_lt] at hc; omega
          have hj9 : j + 1 ≤ 9 := by
            rcases Nat.lt_or_ge j 9 with h | h
            · omega
            · have := h9 (by omega); omega
          have hcl := c.toNat_lt
          have hm : c.toNat % 128 < 128 := Nat.mod_lt _ (by decide)
          rw [if_neg (by simpa using hc)]
          rcases ih (j + 1) (n + (c.toUInt64 % 128) * UInt64.ofNat (2 ^ (7 * j))) tl hj9 (by omega) (by rw [v2]; exact acc_next _ _ _ hn hm) with ⟨m, t, v, e1, e2, e3, e4⟩ | h
          · left
            refine ⟨m, t, c.toNat % 128 + 128 * v, e1, fun g hg => ?_, ?_, fun _ => by have := e4 (by omega); omega⟩
            · obtain ⟨g, rfl⟩ : ∃ g', g = g' + 1 := ⟨g - 1, by omega⟩
              have hv := e4 (by omega)
              unfold enc
              rw [if_neg (by omega), show (c.toNat % 128 + 128 * v) / 128 = v by omega, show (c.toNat % 128 + 128 * v) % 128 + 128 = c.toNat by omega, UInt8.ofNat_toNat, List.cons_append, ← e2 g (by omega)]
            · rw [e3, v2, Nat.mul_add 7 j 1, Nat.pow_add, Nat.add_mul]
              generalize 2 ^ (7 * j) = q
              rw [show (2 : Nat) ^ (7 * 1) = 128 by decide, Nat.mul_comm q 128, ← Nat.mul_assoc, Nat.mul_comm v 128]
              omega
          · right; exact h
theorem rd_num (s : Str) (top : UInt64) : Rd (wire_Reader_Num ⟨s⟩ top) s (fun n p => n ≤ top ∧ p = enc 11 n.toNat) := by
  have h := num_inv 10 0 0 s (by omega) rfl (by decide)
  have e0 : wire_Reader_Num_l0 11 0 0 s = wire_Reader_Num_l0 (10 + 1) 0 ((0 : Nat) : Int) s := rfl
  unfold wire_Reader_Num
  dsimp only
  rw [e0]
  rcases h with ⟨m, t, v, e1, e2, e3, _⟩ | ⟨e, o, e1, he⟩
  · rw [e1, Option.bind_some]
    dsimp only
    have hv : m.toNat = v := by rw [e3]; simp
    by_cases h : top < m
    · rw [if_pos (by simpa using h)]
      exact rd_err (e := 3) (by decide)
    · rw [if_neg (by simpa using h)]
      refine .inl ⟨m, t, enc 11 v, rfl, e2 11 (by omega), ?_, by rw [hv]⟩
      rw [UInt64.le_iff_toNat_le]; rw [UInt64.lt_iff_toNat_lt] at h; omega
  · rw [e1, Option.bind_some]
    exact rd_err he
theorem rd_bytes (s : Str) (k : Nat) (n : Int) (hn : n = (k : Int)) : Rd (wire_Reader_Bytes ⟨s⟩ n) s (fun x p => p = x ∧ x.length = k) := by
  subst hn
  unfold wire_Reader_Bytes
  by_cases h : k ≤ s.length
  · rw [if_neg (by simp; omega), Option.bind_some]
    dsimp only
    rw [sl_lo (by omega) (by omega), Option.bind_some, sl_hi (by omega) (by omega), Option.bind_some]
    refine .inl ⟨_, _, s.take k, rfl, by simp, by simp, by simp; omega⟩
  · rw [if_pos (by simp; omega)]
    exact rd_err (e := 4) (by decide)
theorem rd_text (s : Str) (top : Nat) (h : top ≤ 100000) : Rd (wire_Reader_Text ⟨s⟩ (top : Int)) s (fun x p => x.length ≤ top ∧ p = enc 11 x.length ++ x) := by
  unfold wire_Reader_Text
  refine rd_bind (rd_num s _) fun n t p e q => ?_
  obtain ⟨q1, q2⟩ := q
  dsimp only
  have ht : (toW (if (top : Int) < 0 then 0 else (top : Int))).toNat = top := by
    rw [if_neg (by omega)]; exact toW_len top h
  rw [UInt64.le_iff_toNat_le, ht] at q1
  have hi : i64 ((n.toNat : Nat) : Int) = (n.toNat : Int) := i64_id (by omega) (by omega)
  generalize i64 ((n.toNat : Nat) : Int) = z at hi
  refine rd_bind (rd_bytes t n.toNat z hi) fun x t2 p2 e2 q3 => ?_
  obtain ⟨rfl, q4⟩ := q3
  refine rd_ok ?_
  rw [q4]
  exact ⟨q1, by rw [q2, List.append_nil]⟩
theorem rd_flag (s : Str) : Rd (wire_Reader_Flag ⟨s⟩) s (fun b p => p = wire_Flag b) := by
  unfold wire_Reader_Flag
  refine rd_bind (rd_bytes s 1 1 rfl) fun x t p e q => ?_
  obtain ⟨rfl, q2⟩ := q
  match p, q2 with
  | [c], _ =>
    dsimp only
    rw [show gi [c] 0 = some c from rfl, Option.bind_some]
    by_cases h : 1 < c
    · rw [if_pos (by simpa using h)]
      exact rd_err (e := 6) (by decide)
    · rw [if_neg (by simpa using h)]
      refine rd_ok ?_
      have e0 : (1 : UInt8).toNat = 1 := by decide
      rw [UInt8.lt_iff_toNat_lt, e0] at h
      have : c = 0 ∨ c = 1 := by
        have : c.toNat = 0 ∨ c.toNat = 1 := by omega
        rcases this with h | h
        · exact .inl (UInt8.toNat_inj.1 h)
        · exact .inr (UInt8.toNat_inj.1 h)
      rcases this with rfl | rfl <;> rfl
end Go.Proofs.Ythngfieikhillaa.Pure
