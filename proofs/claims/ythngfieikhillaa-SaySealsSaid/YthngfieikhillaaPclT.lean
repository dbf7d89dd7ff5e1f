import Derived.Test.YthngfieikhillaaW9
import Derived.Test.YthngfieikhillaaPwireS
import Derived.Test.YthngfieikhillaaPclA
set_option linter.unusedVariables false
set_option linter.unusedSectionVars false
set_option linter.unusedSimpArgs false
set_option maxRecDepth 100000
set_option maxHeartbeats 8000000

namespace Go.Proofs.Ythngfieikhillaa.Pure
open Go Go.Proofs.Ythngfieikhillaa.Hw Go.Proofs.Ythngfieikhillaa

theorem top_all (n : UInt64) : n ≤ 18446744073709551615 := by
  rw [UInt64.le_iff_toNat_le]
  have : (18446744073709551615 : UInt64).toNat = 18446744073709551615 := by decide
  have := n.toNat_lt; omega
theorem num_c (n : UInt64) : wire_Num n = some (enc 11 n.toNat) := (num_enc n).1
theorem toW_big (n : Nat) (h : n < 4611686018427387904) : (toW (n : Int)).toNat = n := by
  unfold toW
  rw [show ((n : Int) % 18446744073709551616).toNat = n by omega]
  rw [UInt64.toNat_ofNat']; omega
theorem i64_nat (n : Nat) (h : n < 4611686018427387904) : i64 (n : Int) = (n : Int) := i64_id (by omega) (by omega)
theorem le_nat (a b : UInt64) (n m : Nat) (ha : a.toNat = n) (hb : b.toNat = m) (h : n ≤ m) : a ≤ b := by
  rw [UInt64.le_iff_toNat_le]; omega
/-- A view's bytes. -/
def vby (v : api_View) : Str := enc 11 v.V.toNat ++ (enc 11 (toW v.Primary).toNat ++ (enc 11 v.PLife.toNat ++ (enc 11 (toW (i64 (v.Backup + 1))).toNat ++ (enc 11 v.BLife.toNat ++ enc 11 v.Epoch.toNat))))
theorem vby_len (v : api_View) : (vby v).length ≤ 66 := by
  have l1 := enc_len 11 v.V.toNat
  have l2 := enc_len 11 (toW v.Primary).toNat
  have l3 := enc_len 11 v.PLife.toNat
  have l4 := enc_len 11 (toW (i64 (v.Backup + 1))).toNat
  have l5 := enc_len 11 v.BLife.toNat
  have l6 := enc_len 11 v.Epoch.toNat
  unfold vby; simp; omega
theorem put_v (v : api_View) (hne : v ≠ ⟨0, 0, 0, 0, 0, 0⟩) : cell_Put v = some (vby v) := by
  have l1 := enc_len 11 v.V.toNat
  have l2 := enc_len 11 (toW v.Primary).toNat
  have l3 := enc_len 11 v.PLife.toNat
  have l4 := enc_len 11 (toW (i64 (v.Backup + 1))).toNat
  have l5 := enc_len 11 v.BLife.toNat
  have l6 := enc_len 11 v.Epoch.toNat
  unfold cell_Put vby
  rw [if_neg (by simpa using hne), Option.bind_some, num_c, Option.bind_some, num_c, Option.bind_some, if_pos (by simp [maxS]; omega), num_c, Option.bind_some, if_pos (by simp [maxS]; omega), num_c, Option.bind_some, if_pos (by simp [maxS]; omega), num_c, Option.bind_some, if_pos (by simp [maxS]; omega), num_c, Option.bind_some, if_pos (by simp [maxS]; omega)]
  simp
theorem take_v (v : api_View) (h : cell_Check v = true) (rest : Str) : v ≠ ⟨0, 0, 0, 0, 0, 0⟩ ∧ cell_TakeView ⟨vby v ++ rest⟩ = some (.inl (v, ⟨rest⟩)) := by
  have hc := h
  unfold cell_Check at h
  simp only [Bool.and_eq_true, Bool.or_eq_true, decide_eq_true_eq, beq_iff_eq, bne_iff_ne, ne_eq] at h
  obtain ⟨⟨⟨hV, hE⟩, ⟨hp0, hp1⟩, hpl⟩, hb⟩ := h
  have hne : v ≠ ⟨0, 0, 0, 0, 0, 0⟩ := fun e => by rw [e] at hV; exact absurd hV (by decide)
  have hne2 : v ≠ ⟨0, 0, 0, -1, 0, 0⟩ := fun e => by rw [e] at hV; exact absurd hV (by decide)
  refine ⟨hne, ?_⟩
  have hb' : -1 ≤ v.Backup ∧ v.Backup < 1048576 := by
    rcases hb with ⟨hb, _⟩ | ⟨⟨⟨b0, b1⟩, _⟩, _⟩ <;> omega
  obtain ⟨P, hP⟩ : ∃ P : Nat, v.Primary = (P : Int) := ⟨v.Primary.toNat, by omega⟩
  obtain ⟨k, hk⟩ : ∃ k : Nat, v.Backup + 1 = (k : Int) := ⟨(v.Backup + 1).toNat, by omega⟩
  have e : vby v ++ rest = enc 11 v.V.toNat ++ (enc 11 (toW v.Primary).toNat ++ (enc 11 v.PLife.toNat ++ (enc 11 (toW (i64 (v.Backup + 1))).toNat ++ (enc 11 v.BLife.toNat ++ (enc 11 v.Epoch.toNat ++ rest))))) := by unfold vby; simp
  rw [e]
  have hPW : (toW v.Primary).toNat = P := by rw [hP, toW_big P (by omega)]
  have hkI : i64 (v.Backup + 1) = (k : Int) := by rw [hk, i64_nat k (by omega)]
  have hkW : (toW (i64 (v.Backup + 1))).toNat = k := by rw [hkI, toW_big k (by omega)]
  have m20 : (1048576 : UInt64).toNat = 1048576 := by decide
  have r2 := le_nat (toW v.Primary) 1048576 P 1048576 hPW m20 (by omega)
  have r4 := le_nat (toW (i64 (v.Backup + 1))) 1048576 k 1048576 hkW m20 (by omega)
  unfold cell_TakeView
  rw [num_back v.V _ _ (top_all _), Option.bind_some]
  dsimp only [sm]
  rw [num_back (toW v.Primary) _ _ r2, Option.bind_some]
  dsimp only [sm]
  rw [num_back v.PLife _ _ (top_all _), Option.bind_some]
  dsimp only [sm]
  rw [num_back (toW (i64 (v.Backup + 1))) _ _ r4, Option.bind_some]
  dsimp only [sm]
  rw [num_back v.BLife _ _ (top_all _), Option.bind_some]
  dsimp only [sm]
  rw [num_back v.Epoch _ _ (top_all _), Option.bind_some]
  dsimp only [sm]
  rw [hPW, hkW, i64_nat P (by omega), i64_nat k (by omega), ← hk, show v.Backup + 1 - 1 = v.Backup by omega, i64_id (n := v.Backup) (by omega) (by omega), ← hP]
  have hv : (⟨v.V, v.Primary, v.PLife, v.Backup, v.BLife, v.Epoch⟩ : api_View) = v := rfl
  rw [hv, if_neg (by simpa using hne2), hc, must_ok]
  dsimp only [lt, sm]
/-- A reply's bytes, if nothing comes with it. -/
def rby (k : Nat) : Str := enc 11 (toW (k : Int)).toNat ++ ((enc 11 0 ++ []) ++ enc 11 (0 : UInt64).toNat)
theorem rby_len (k : Nat) : (rby k).length ≤ 33 := by
  have l1 := enc_len 11 (toW (k : Int)).toNat
  have l2 := enc_len 11 0
  have l3 := enc_len 11 (0 : UInt64).toNat
  unfold rby; simp at *; omega
theorem put_r (k : Nat) (hk : k ≤ 65535) : op_PutReply ⟨(k : Int), [], 0⟩ = some (rby k) := by
  have l1 := enc_len 11 (toW (k : Int)).toNat
  have l2 := enc_len 11 0
  have l3 := enc_len 11 (0 : UInt64).toNat
  unfold op_PutReply rby
  dsimp only
  rw [num_c, Option.bind_some, (text_bytes [] (by simp)).1, Option.bind_some, if_pos (by simp [maxS] at *; omega), num_c, Option.bind_some, if_pos (by simp [maxS] at *; omega)]
  simp
theorem take_r (k : Nat) (hk : k ≤ 65535) (rest : Str) : op_TakeReply ⟨rby k ++ rest⟩ = some (.inl (⟨(k : Int), [], 0⟩, ⟨rest⟩)) := by
  have ee : rby k ++ rest = enc 11 (toW (k : Int)).toNat ++ (enc 11 ([] : Str).length ++ ([] ++ (enc 11 (0 : UInt64).toNat ++ rest))) := by unfold rby; simp
  rw [ee]
  unfold op_TakeReply
  have hk2 : toW (k : Int) ≤ 65535 := by
    rw [UInt64.le_iff_toNat_le, toW_len k (by omega)]
    have e0 : (65535 : UInt64).toNat = 65535 := by decide
    omega
  rw [num_back _ _ _ hk2, Option.bind_some]
  dsimp only [sm]
  rw [text_back [] _ 4096 (by simp) (by simp) (by decide), Option.bind_some]
  dsimp only [sm]
  rw [num_back 0 _ _ (top_all _), Option.bind_some]
  dsimp only [sm]
  have hi : i64 ((toW (k : Int)).toNat : Int) = (k : Int) := by
    rw [toW_len k (by omega)]
    exact i64_id (by omega) (by omega)
  rw [hi]
theorem f14 : ∀ n : Int, n = 3 ∨ n = 4 ∨ n = 5 ∨ n = 6 ∨ n = 7 ∨ n = 8 ∨ n = 9 ∨ n = 10 ∨ n = 11 ∨ n = 12 ∨ n = 13 → ((14 : Int) == n) = false := by
  intro n h; rcases h with rfl | rfl | rfl | rfl | rfl | rfl | rfl | rfl | rfl | rfl | rfl <;> rfl
def tby (v : api_View) (seq ses num : UInt64) (k : Nat) : Str := (enc 11 (toW 14).toNat ++ vby v) ++ (((enc 11 ses.toNat ++ enc 11 num.toNat) ++ enc 11 seq.toNat) ++ rby k)
theorem tby_len (v : api_View) (seq ses num : UInt64) (k : Nat) : (tby v seq ses num k).length ≤ 1000 := by
  have l0 := enc_len 11 (toW 14).toNat
  have l1 := enc_len 11 ses.toNat
  have l2 := enc_len 11 num.toNat
  have l3 := enc_len 11 seq.toNat
  have l4 := rby_len k
  have l5 := vby_len v
  unfold tby; simp; omega
theorem put_told (v : api_View) (seq ses num : UInt64) (k : Nat) (hk : k ≤ 65535) (hv : v ≠ ⟨0, 0, 0, 0, 0, 0⟩) : say_Put (sayT v seq ses num (k : Int)) = some (tby v seq ses num k) := by
  have l0 := enc_len 11 (toW 14).toNat
  have l1 := enc_len 11 ses.toNat
  have l2 := enc_len 11 num.toNat
  have l3 := enc_len 11 seq.toNat
  have l4 := rby_len k
  have l5 := vby_len v
  unfold say_Put sayT
  dsimp only
  rw [num_c, Option.bind_some, if_pos (by decide), put_v v hv, Option.bind_some, if_pos (by simp [maxS]; omega), Option.bind_some]
  rw [f14 3 (by simp), f14 4 (by simp), f14 5 (by simp), f14 6 (by simp), f14 7 (by simp), f14 8 (by simp), f14 9 (by simp), f14 10 (by simp), f14 11 (by simp), f14 12 (by simp), f14 13 (by simp)]
  rw [if_neg (by decide), if_neg (by decide), if_neg (by decide), Option.bind_some, if_neg (by decide), if_neg (by decide), if_neg (by decide), if_neg (by decide), if_neg (by decide), if_neg (by decide), if_neg (by decide), if_neg (by decide), if_pos (by decide)]
  rw [num_c, Option.bind_some, num_c, Option.bind_some, if_pos (by simp [maxS]; omega), num_c, Option.bind_some, if_pos (by simp [maxS]; omega), put_r k hk, Option.bind_some, if_pos (by simp [maxS]; omega), if_pos (by simp [maxS]; omega)]
  rfl
theorem take_told (v : api_View) (seq ses num : UInt64) (k : Nat) (hk : k ≤ 65535) (hv : cell_Check v = true) : say_take ⟨tby v seq ses num k⟩ = some (.inl (sayT v seq ses num (k : Int), ⟨[]⟩)) := by
  have e : tby v seq ses num k = enc 11 (toW 14).toNat ++ (vby v ++ (enc 11 ses.toNat ++ (enc 11 num.toNat ++ (enc 11 seq.toNat ++ (rby k ++ []))))) := by unfold tby; simp
  rw [e]
  unfold say_take
  rw [num_back (toW 14) 15 _ (by decide), Option.bind_some]
  dsimp only [sm]
  rw [show i64 (((toW 14).toNat : Nat) : Int) = 14 by decide, ltq, ltq, show decide ((1 : Int) ≤ 14) = true by decide, must_ok]
  dsimp only [sm]
  rw [if_pos (by decide), (take_v v hv _).2, Option.bind_some]
  dsimp only [sm]
  rw [Option.bind_some]
  dsimp only
  rw [f14 3 (by simp), f14 4 (by simp), f14 5 (by simp), f14 6 (by simp), f14 7 (by simp), f14 8 (by simp), f14 9 (by simp), f14 10 (by simp), f14 11 (by simp), f14 12 (by simp), f14 13 (by simp)]
  rw [if_neg (by decide), if_neg (by decide), if_neg (by decide), Option.bind_some, if_neg (by decide), if_neg (by decide), if_neg (by decide), if_neg (by decide), if_neg (by decide), if_neg (by decide), if_neg (by decide), if_neg (by decide), if_pos (by decide)]
  rw [num_back ses _ _ (top_all _), Option.bind_some]
  dsimp only [sm]
  rw [num_back num _ _ (top_all _), Option.bind_some]
  dsimp only [sm]
  rw [num_back seq _ _ (top_all _), Option.bind_some]
  dsimp only [sm]
  rw [take_r k hk [], Option.bind_some]
  rfl
theorem told_goes (v : api_View) (seq ses num : UInt64) (k : Nat) (hk : k ≤ 65535) (hv : cell_Check v = true) : goes (sayT v seq ses num (k : Int)) = true := by
  unfold goes
  rw [put_told v seq ses num k hk (take_v v hv []).1]
  dsimp only
  have g : say_Get (tby v seq ses num k) = some (sayT v seq ses num (k : Int), 0) := by
    unfold say_Get say_Get_1
    rw [take_told v seq ses num k hk hv, Option.bind_some]
    rfl
  have hl := tby_len v seq ses num k
  rw [g, show decide ((tby v seq ses num k).length ≤ 65536) = true by simp; omega]
  simp
end Go.Proofs.Ythngfieikhillaa.Pure
