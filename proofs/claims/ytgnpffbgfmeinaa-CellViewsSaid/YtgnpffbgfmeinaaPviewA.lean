import Derived.Test.YtgnpffbgfmeinaaW1
import Derived.Test.YtgnpffbgfmeinaaPwireA
import Derived.Test.YtgnpffbgfmeinaaPwireB
import Derived.Test.YtgnpffbgfmeinaaPwireC
import Derived.Test.YtgnpffbgfmeinaaPwireD
import Derived.Test.YtgnpffbgfmeinaaPwireE
import Derived.Test.YtgnpffbgfmeinaaPwireF
import Derived.Test.YtgnpffbgfmeinaaPwireG
import Derived.Test.YtgnpffbgfmeinaaPwireH
import Derived.Test.YtgnpffbgfmeinaaPwireI
import Derived.Test.YtgnpffbgfmeinaaPwireJ
import Derived.Test.YtgnpffbgfmeinaaPwireK
import Derived.Test.YtgnpffbgfmeinaaPwireL
import Derived.Test.YtgnpffbgfmeinaaPwireM
import Derived.Test.YtgnpffbgfmeinaaPopA
import Derived.Test.YtgnpffbgfmeinaaPopB
set_option linter.unusedVariables false
set_option linter.unusedSimpArgs false
set_option maxRecDepth 100000
set_option maxHeartbeats 8000000

namespace Go.Proofs.Ytgnpffbgfmeinaa.Pure
open Go Go.Proofs.Ytgnpffbgfmeinaa.Hw Go.Proofs.Ytgnpffbgfmeinaa

/-! views: their bytes, and back -/

theorem view_check (v : api_View) : cell_Check v = hawthornref16_Check v := by
  unfold cell_Check hawthornref16_Check
  rw [Bool.eq_iff_iff]
  have e : ∀ x : UInt64, (x = 0) ↔ x.toNat = 0 := fun x => ⟨fun h => by rw [h]; rfl, fun h => UInt64.toNat_inj.1 h⟩
  split
  · rename_i h
    simp [UInt64.le_iff_toNat_le, UInt64.lt_iff_toNat_lt, e] at h ⊢
    omega
  · rename_i h
    simp [UInt64.le_iff_toNat_le, UInt64.lt_iff_toNat_lt, e] at h
    split
    · rename_i h2
      simp [UInt64.le_iff_toNat_le, UInt64.lt_iff_toNat_lt, e] at h2 ⊢
      omega
    · rename_i h2
      simp [UInt64.le_iff_toNat_le, UInt64.lt_iff_toNat_lt, e] at h2 ⊢
      omega

theorem toW_big (n : Nat) (h : n < 4611686018427387904) : (toW (n : Int)).toNat = n := by
  unfold toW
  rw [UInt64.toNat_ofNat']
  omega
theorem i64_nat (n : Nat) (h : n < 4611686018427387904) : i64 (n : Int) = (n : Int) := i64_id (by omega) (by omega)
theorem le_nat (a b : UInt64) (n m : Nat) (ha : a.toNat = n) (hb : b.toNat = m) (h : n ≤ m) : a ≤ b := by
  rw [UInt64.le_iff_toNat_le]; omega

theorem pv0 (v : api_View) (p : UInt64) (s : Str) (k : Nat) (hs : s.length ≤ 1000) : hawthornref16_PutView_l1 v p (k + 1) s 0 = hawthornref16_PutView_l1 v p k (s ++ enc 11 (v.V).toNat) 1 := by
  conv => lhs; unfold hawthornref16_PutView_l1
  have hg : gi [v.V, toW v.Primary, v.PLife, p, v.BLife, v.Epoch] 0 = some (v.V) := rfl
  have hl := enc_len 11 (v.V).toNat
  rw [if_pos (by simp), hg, Option.bind_some, (num_enc _).2, Option.bind_some, if_pos (by simp [maxS]; omega)]
  rfl
theorem pv1 (v : api_View) (p : UInt64) (s : Str) (k : Nat) (hs : s.length ≤ 1000) : hawthornref16_PutView_l1 v p (k + 1) s 1 = hawthornref16_PutView_l1 v p k (s ++ enc 11 (toW v.Primary).toNat) 2 := by
  conv => lhs; unfold hawthornref16_PutView_l1
  have hg : gi [v.V, toW v.Primary, v.PLife, p, v.BLife, v.Epoch] 1 = some (toW v.Primary) := rfl
  have hl := enc_len 11 (toW v.Primary).toNat
  rw [if_pos (by simp), hg, Option.bind_some, (num_enc _).2, Option.bind_some, if_pos (by simp [maxS]; omega)]
  rfl
theorem pv2 (v : api_View) (p : UInt64) (s : Str) (k : Nat) (hs : s.length ≤ 1000) : hawthornref16_PutView_l1 v p (k + 1) s 2 = hawthornref16_PutView_l1 v p k (s ++ enc 11 (v.PLife).toNat) 3 := by
  conv => lhs; unfold hawthornref16_PutView_l1
  have hg : gi [v.V, toW v.Primary, v.PLife, p, v.BLife, v.Epoch] 2 = some (v.PLife) := rfl
  have hl := enc_len 11 (v.PLife).toNat
  rw [if_pos (by simp), hg, Option.bind_some, (num_enc _).2, Option.bind_some, if_pos (by simp [maxS]; omega)]
  rfl
theorem pv3 (v : api_View) (p : UInt64) (s : Str) (k : Nat) (hs : s.length ≤ 1000) : hawthornref16_PutView_l1 v p (k + 1) s 3 = hawthornref16_PutView_l1 v p k (s ++ enc 11 (p).toNat) 4 := by
  conv => lhs; unfold hawthornref16_PutView_l1
  have hg : gi [v.V, toW v.Primary, v.PLife, p, v.BLife, v.Epoch] 3 = some (p) := rfl
  have hl := enc_len 11 (p).toNat
  rw [if_pos (by simp), hg, Option.bind_some, (num_enc _).2, Option.bind_some, if_pos (by simp [maxS]; omega)]
  rfl
theorem pv4 (v : api_View) (p : UInt64) (s : Str) (k : Nat) (hs : s.length ≤ 1000) : hawthornref16_PutView_l1 v p (k + 1) s 4 = hawthornref16_PutView_l1 v p k (s ++ enc 11 (v.BLife).toNat) 5 := by
  conv => lhs; unfold hawthornref16_PutView_l1
  have hg : gi [v.V, toW v.Primary, v.PLife, p, v.BLife, v.Epoch] 4 = some (v.BLife) := rfl
  have hl := enc_len 11 (v.BLife).toNat
  rw [if_pos (by simp), hg, Option.bind_some, (num_enc _).2, Option.bind_some, if_pos (by simp [maxS]; omega)]
  rfl
theorem pv5 (v : api_View) (p : UInt64) (s : Str) (k : Nat) (hs : s.length ≤ 1000) : hawthornref16_PutView_l1 v p (k + 1) s 5 = hawthornref16_PutView_l1 v p k (s ++ enc 11 (v.Epoch).toNat) 6 := by
  conv => lhs; unfold hawthornref16_PutView_l1
  have hg : gi [v.V, toW v.Primary, v.PLife, p, v.BLife, v.Epoch] 5 = some (v.Epoch) := rfl
  have hl := enc_len 11 (v.Epoch).toNat
  rw [if_pos (by simp), hg, Option.bind_some, (num_enc _).2, Option.bind_some, if_pos (by simp [maxS]; omega)]
  rfl

theorem put_view (v : api_View) (b : Int) (hb : (if decide (v = (⟨0, 0, 0, 0, 0, 0⟩ : api_View)) = true then some (-1) else some v.Backup) = some b) :
    cell_Put v = some (enc 11 v.V.toNat ++ (enc 11 (toW v.Primary).toNat ++ (enc 11 v.PLife.toNat ++ (enc 11 (toW (i64 (b + 1))).toNat ++ (enc 11 v.BLife.toNat ++ enc 11 v.Epoch.toNat))))) ∧
    hawthornref16_PutView v = some (enc 11 v.V.toNat ++ (enc 11 (toW v.Primary).toNat ++ (enc 11 v.PLife.toNat ++ (enc 11 (toW (i64 (b + 1))).toNat ++ (enc 11 v.BLife.toNat ++ enc 11 v.Epoch.toNat))))) := by
  have l1 := enc_len 11 v.V.toNat
  have l2 := enc_len 11 (toW v.Primary).toNat
  have l3 := enc_len 11 v.PLife.toNat
  have l4 := enc_len 11 (toW (i64 (b + 1))).toNat
  have l5 := enc_len 11 v.BLife.toNat
  have l6 := enc_len 11 v.Epoch.toNat
  constructor
  · unfold cell_Put
    rw [hb, Option.bind_some, (num_enc _).1, Option.bind_some, (num_enc _).1, Option.bind_some, if_pos (by simp [maxS]; omega), (num_enc _).1, Option.bind_some, if_pos (by simp [maxS]; omega), (num_enc _).1, Option.bind_some, if_pos (by simp [maxS]; omega), (num_enc _).1, Option.bind_some, if_pos (by simp [maxS]; omega), (num_enc _).1, Option.bind_some, if_pos (by simp [maxS]; omega)]
    simp
  · have hp : (if decide (v = (⟨0, 0, 0, 0, 0, 0⟩ : api_View)) = true then some (0 : UInt64) else some (toW (i64 (v.Backup + 1)))) = some (toW (i64 (b + 1))) := by
      split at hb
      · rename_i h
        rw [if_pos h]
        cases hb
        rfl
      · rename_i h
        rw [if_neg h]
        cases hb
        rfl
    unfold hawthornref16_PutView
    rw [hp, Option.bind_some]
    generalize toW (i64 (b + 1)) = p at l4
    have key : hawthornref16_PutView_l1 v p 7 [] 0 = some (enc 11 v.V.toNat ++ (enc 11 (toW v.Primary).toNat ++ (enc 11 v.PLife.toNat ++ (enc 11 p.toNat ++ (enc 11 v.BLife.toNat ++ enc 11 v.Epoch.toNat))))) := by
      rw [pv0 v p [] 6 (by simp), pv1 v p _ 5 (by simp; omega), pv2 v p _ 4 (by simp; omega), pv3 v p _ 3 (by simp; omega), pv4 v p _ 2 (by simp; omega), pv5 v p _ 1 (by simp; omega)]
      unfold hawthornref16_PutView_l1
      rw [if_neg (by simp)]
      simp
    have e7 : ((([v.V, toW v.Primary, v.PLife, p, v.BLife, v.Epoch].length : Int) - 0).toNat + 1) = 7 := rfl
    rw [e7, key, Option.bind_some]

theorem view_there (v : api_View) (h : cell_Check v = true ∨ v = ⟨0, 0, 0, 0, 0, 0⟩) : ∃ b, cell_Put v = some b ∧ hawthornref16_PutView v = some b ∧ b.length ≤ 100 ∧ ∀ rest, cell_TakeView ⟨b ++ rest⟩ = some (.inl (v, ⟨rest⟩)) := by
  have hh : ∃ (b : Int) (P k : Nat), (if decide (v = (⟨0, 0, 0, 0, 0, 0⟩ : api_View)) = true then some (-1) else some v.Backup) = some b ∧ v.Primary = (P : Int) ∧ P ≤ 1048576 ∧ b + 1 = (k : Int) ∧ k ≤ 1048576 ∧
      ((v = ⟨0, 0, 0, 0, 0, 0⟩ ∧ b = -1) ∨ (v.Backup = b ∧ v ≠ ⟨0, 0, 0, -1, 0, 0⟩ ∧ cell_Check v = true)) := by
    rcases h with h | h
    · have hc := h
      unfold cell_Check at h
      simp only [Bool.and_eq_true, Bool.or_eq_true, decide_eq_true_eq, beq_iff_eq, bne_iff_ne, ne_eq] at h
      obtain ⟨⟨⟨hV, hE⟩, ⟨hp0, hp1⟩, hpl⟩, hb⟩ := h
      have hne : v ≠ ⟨0, 0, 0, 0, 0, 0⟩ := fun e => by rw [e] at hV; exact absurd hV (by decide)
      have hne2 : v ≠ ⟨0, 0, 0, -1, 0, 0⟩ := fun e => by rw [e] at hV; exact absurd hV (by decide)
      have hb' : -1 ≤ v.Backup ∧ v.Backup < 1048576 := by
        rcases hb with ⟨hb, _⟩ | ⟨⟨⟨b0, b1⟩, _⟩, _⟩ <;> omega
      refine ⟨v.Backup, v.Primary.toNat, (v.Backup + 1).toNat, by rw [if_neg (by simpa using hne)], by omega, by omega, by omega, by omega, .inr ⟨rfl, hne2, hc⟩⟩
    · subst h
      exact ⟨-1, 0, 0, rfl, rfl, by decide, rfl, by decide, .inl ⟨rfl, rfl⟩⟩
  obtain ⟨b, P, k, hb, hP, hP2, hk, hk2, hcase⟩ := hh
  obtain ⟨h1, h2⟩ := put_view v b hb
  have l1 := enc_len 11 v.V.toNat
  have l2 := enc_len 11 (toW v.Primary).toNat
  have l3 := enc_len 11 v.PLife.toNat
  have l4 := enc_len 11 (toW (i64 (b + 1))).toNat
  have l5 := enc_len 11 v.BLife.toNat
  have l6 := enc_len 11 v.Epoch.toNat
  refine ⟨_, h1, h2, by simp; omega, ?_⟩
  intro rest
  have e : (enc 11 v.V.toNat ++ (enc 11 (toW v.Primary).toNat ++ (enc 11 v.PLife.toNat ++ (enc 11 (toW (i64 (b + 1))).toNat ++ (enc 11 v.BLife.toNat ++ enc 11 v.Epoch.toNat))))) ++ rest =
    enc 11 v.V.toNat ++ (enc 11 (toW v.Primary).toNat ++ (enc 11 v.PLife.toNat ++ (enc 11 (toW (i64 (b + 1))).toNat ++ (enc 11 v.BLife.toNat ++ (enc 11 v.Epoch.toNat ++ rest))))) := by simp
  rw [e]
  have hPW : (toW v.Primary).toNat = P := by rw [hP, toW_big P (by omega)]
  have hkI : i64 (b + 1) = (k : Int) := by rw [hk, i64_nat k (by omega)]
  have hkW : (toW (i64 (b + 1))).toNat = k := by rw [hkI, toW_big k (by omega)]
  have m20 : (1048576 : UInt64).toNat = 1048576 := by decide
  have r2 := le_nat (toW v.Primary) 1048576 P 1048576 hPW m20 hP2
  have r4 := le_nat (toW (i64 (b + 1))) 1048576 k 1048576 hkW m20 hk2
  unfold cell_TakeView
  rw [num_back v.V _ _ (top_all _), Option.bind_some]
  dsimp only [sm]
  rw [num_back (toW v.Primary) _ _ r2, Option.bind_some]
  dsimp only [sm]
  rw [num_back v.PLife _ _ (top_all _), Option.bind_some]
  dsimp only [sm]
  rw [num_back (toW (i64 (b + 1))) _ _ r4, Option.bind_some]
  dsimp only [sm]
  rw [num_back v.BLife _ _ (top_all _), Option.bind_some]
  dsimp only [sm]
  rw [num_back v.Epoch _ _ (top_all _), Option.bind_some]
  dsimp only [sm]
  rw [hPW, hkW, i64_nat P (by omega), i64_nat k (by omega), ← hk, show b + 1 - 1 = b by omega, i64_id (n := b) (by omega) (by omega), ← hP]
  rcases hcase with ⟨rfl, rfl⟩ | ⟨hB, hne, hc⟩
  · rfl
  · have hv : (⟨v.V, v.Primary, v.PLife, b, v.BLife, v.Epoch⟩ : api_View) = v := by rw [← hB]
    rw [hv, if_neg (by simpa using hne), hc, must_ok]
    dsimp only [lt, sm]
theorem view_awake : hawthornlaw16_awake = some true := by decide +kernel
theorem CellViews (v : api_View) {p : Prop} (_ : p) : hawthornlaw16_CellViews v = some true := by
  unfold hawthornlaw16_CellViews
  rw [view_awake, Option.bind_some, view_check]
  simp only [bne_self_eq_false, Bool.not_true, Bool.or_self, Bool.false_eq_true, if_false]
  split
  · rfl
  · rename_i h
    have hv : cell_Check v = true ∨ v = ⟨0, 0, 0, 0, 0, 0⟩ := by
      rw [view_check]
      by_cases h1 : hawthornref16_Check v = true
      · exact .inl h1
      · by_cases h2 : v = ⟨0, 0, 0, 0, 0, 0⟩
        · exact .inr h2
        · exact absurd (by simp [h1, h2]) h
    obtain ⟨b, h1, h2, h3, h4⟩ := view_there v hv
    have h5 := h4 []
    rw [List.append_nil] at h5
    rw [h1, Option.bind_some]
    unfold hawthornlaw16_CellViews_1
    rw [h5, Option.bind_some]
    dsimp only [sm]
    rw [Option.bind_some]
    dsimp only [sm]
    simp [h2]
end Go.Proofs.Ytgnpffbgfmeinaa.Pure
