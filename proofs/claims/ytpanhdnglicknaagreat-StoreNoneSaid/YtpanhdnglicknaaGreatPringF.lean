import Derived.Test.YtpanhdnglicknaaGreatW3
import Derived.Test.YtpanhdnglicknaaGreatPskZ
import Derived.Test.YtpanhdnglicknaaGreatPskP
import Derived.Test.YtpanhdnglicknaaGreatPringA
import Derived.Test.YtpanhdnglicknaaGreatPringB
import Derived.Test.YtpanhdnglicknaaGreatPringC
import Derived.Test.YtpanhdnglicknaaGreatPringD
import Derived.Test.YtpanhdnglicknaaGreatPringE
set_option linter.unusedVariables false
set_option linter.unusedSectionVars false
set_option linter.unusedSimpArgs false
set_option maxRecDepth 100000
set_option maxHeartbeats 8000000

namespace Go.Proofs.YtpanhdnglicknaaGreat.Pure
open Go Go.Proofs.YtpanhdnglicknaaGreat.Hw Go.Proofs.YtpanhdnglicknaaGreat

theorem new_l3 (k n : Nat) (hk : k ≤ 8) (hn : n ≤ 4096) : ∀ (f s : Nat) (c : List ring_slot), f = k - s + 1 → s ≤ k → c.length = k + n →
    ∃ c', ring_New_l1 (k : Int) f (s : Int) c = some c' ∧ c'.length = k + n ∧ ∀ q, S0 c' q = if s ≤ q ∧ q < k then ⟨[], (q : Int), (q : Int), (q : Int)⟩ else S0 c q := by
  intro f
  induction f with
  | zero => intro s c h; omega
  | succ f ih =>
    intro s c hf hs hc
    unfold ring_New_l1
    by_cases h : s < k
    · rw [if_pos (by simp; omega), giN (by omega), Option.bind_some, lsC, show i64 ((s : Int) + 1) = ((s + 1 : Nat) : Int) by rw [i64s] <;> omega]
      obtain ⟨c', e, hl, hq⟩ := ih (s + 1) (c.set s ⟨[], (s : Int), (s : Int), (s : Int)⟩) (by omega) (by omega) (by rw [List.length_set, hc])
      refine ⟨c', e, hl, fun q => ?_⟩
      rw [hq]
      unfold S0
      rw [getD_set _ _ _ _ (by omega)]
      by_cases e1 : q = s
      · subst e1; rw [if_neg (by omega), if_pos rfl, if_pos (by omega)]
      · rw [if_neg e1]
        by_cases e2 : s + 1 ≤ q ∧ q < k
        · rw [if_pos e2, if_pos (by omega)]
        · rw [if_neg e2, if_neg (by omega)]
    · rw [if_neg (by simp; omega)]
      exact ⟨c, rfl, hc, fun q => by rw [if_neg (by omega)]⟩
theorem new_l2 (k : Nat) (hk : k ≤ 8) : ∀ (m : Nat) (c : List Int), m ≤ 4096 → c.length + m ≤ 5000 → ring_New_l0 (k : Int) (m + 1) ((m : Int) - 1) c = some (c ++ ((List.range m).reverse.map fun j => ((k + j : Nat) : Int))) := by
  intro m
  induction m with
  | zero => intro c _ _; unfold ring_New_l0; rw [if_neg (by simp)]; simp
  | succ m ih =>
    intro c h1 h2
    unfold ring_New_l0
    have e1 : ((m + 1 : Nat) : Int) - 1 = (m : Int) := by omega
    rw [e1, if_pos (by simp), apd_i _ _ _ (by decide) (by simp; omega), Option.bind_some, i64s _ (by omega) (by omega), i64s _ (by omega) (by omega), ih _ (by omega) (by simp; omega), List.range_succ]
    simp
theorem mks_i {α : Type} (bytes w : Nat) (z : α) (hb : bytes ≤ 48) (hw : w ≤ 5000) : mks bytes (w : Int) z = some (List.replicate w z) := by
  have : bytes * w ≤ 48 * 5000 := Nat.mul_le_mul hb hw
  unfold mks
  rw [if_pos (by refine ⟨by omega, ?_, by omega⟩; rw [← Int.natCast_mul]; omega)]
  rfl
theorem new_ok (k n : Nat) (h1 : 1 ≤ k) (hk : k ≤ 8) (hn : n ≤ 4096) : ∃ r, ring_New (k : Int) (n : Int) = some (some r, 0) ∧ RR k n r (List.replicate k []) := by
  have e1 : i64 ((k : Int) + (n : Int)) = ((k + n : Nat) : Int) := by rw [i64s] <;> omega
  have e2 : i64 ((n : Int) - 1) = (n : Int) - 1 := by rw [i64s] <;> omega
  obtain ⟨S, e3, hl, hq⟩ := new_l3 k n hk hn (k - 0 + 1) 0 (List.replicate (k + n) ⟨[], 0, 0, 0⟩) rfl (by omega) (by simp)
  have e4 := new_l2 k hk n [] hn (by simp; omega)
  have f1 : (((k : Int) - 0).toNat + 1) = k - 0 + 1 := by omega
  have f2 : (((n : Int) - 1 + 1).toNat + 1) = n + 1 := by omega
  unfold ring_New
  rw [if_neg (by simp only [Bool.or_eq_true, decide_eq_true_eq]; omega), mks_i 8 k _ (by decide) (by omega), Option.bind_some, e1, mks_i 40 (k + n) _ (by decide) (by omega), Option.bind_some, f1]
  have e3' : ring_New_l1 (k : Int) (k - 0 + 1) 0 (List.replicate (k + n) ⟨[], 0, 0, 0⟩) = some S := e3
  rw [e3', Option.bind_some, e2, f2, e4, Option.bind_some]
  have fl : (List.replicate k ([] : List Nat)).flatten = [] := by simp
  refine ⟨_, rfl, List.replicate k [], (List.range n).reverse.map fun j => k + j, ⟨⟨hl, by simp, by simp [lens], ?_, ?_, by rw [fl]; exact List.nodup_nil, by rw [fl]; simp⟩, rfl, ?_, ?_, ?_, ?_, ?_, ?_, ?_⟩, ?_⟩
  · intro i Q hQ
    rw [List.getElem?_replicate] at hQ
    split at hQ
    · rename_i hi; cases hQ
      have a := hq i
      rw [if_pos (by omega)] at a
      refine ⟨?_, ?_, trivial⟩
      · unfold nxS; rw [a]
      · unfold pvS; rw [a]
    · cases hQ
  · intro i Q hQ
    rw [List.getElem?_replicate] at hQ
    split at hQ
    · cases hQ; simp
    · cases hQ
  · simp
  · rw [fl, List.nil_append]
    have : (List.range n).reverse.Nodup := (List.reverse_perm _).nodup_iff.2 List.nodup_range
    unfold List.Nodup at this ⊢
    rw [List.pairwise_map]
    exact this.imp (fun h => by omega)
  · intro p hp
    simp only [List.mem_map, List.mem_reverse, List.mem_range] at hp
    obtain ⟨j, hj, rfl⟩ := hp
    omega
  · rw [fl]; simp
  · exact List.nodup_nil
  · intro key v; rw [fl]; simp [mget]
  · rw [fl]; simp
  · unfold keysOf; simp
end Go.Proofs.YtpanhdnglicknaaGreat.Pure
