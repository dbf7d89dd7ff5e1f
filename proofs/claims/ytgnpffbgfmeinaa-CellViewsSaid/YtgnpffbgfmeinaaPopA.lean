import Derived.Test.YtgnpffbgfmeinaaW1
import Derived.Test.YtgnpffbgfmeinaaPwireA
import Derived.Test.YtgnpffbgfmeinaaPwireB
import Derived.Test.YtgnpffbgfmeinaaPwireC
import Derived.Test.YtgnpffbgfmeinaaPwireD
import Derived.Test.YtgnpffbgfmeinaaPwireE
import Derived.Test.YtgnpffbgfmeinaaPwireF
import Derived.Test.YtgnpffbgfmeinaaPwireG
import Derived.Test.YtgnpffbgfmeinaaPwireH
import Derived.Test.YtgnpffbgfmeinaaPwireI
import Derived.Test.YtgnpffbgfmeinaaPwireJ
import Derived.Test.YtgnpffbgfmeinaaPwireK
import Derived.Test.YtgnpffbgfmeinaaPwireL
import Derived.Test.YtgnpffbgfmeinaaPwireM
set_option linter.unusedVariables false
set_option linter.unusedSimpArgs false
set_option maxRecDepth 100000
set_option maxHeartbeats 8000000

namespace Go.Proofs.Ytgnpffbgfmeinaa.Pure
open Go Go.Proofs.Ytgnpffbgfmeinaa.Hw Go.Proofs.Ytgnpffbgfmeinaa

/-! operations, records, replies: their bytes, and back -/

theorem check_same (o : api_Op) : op_Check o = hawthornref10_Check o := by
  obtain ⟨k, key, v, ttl, ver⟩ := o
  unfold op_Check hawthornref10_Check
  have e : decide ((1 : UInt64) ≤ ver) = decide (0 < ver) := by
    rw [decide_eq_decide, UInt64.le_iff_toNat_le, UInt64.lt_iff_toNat_lt]
    have e1 : (1 : UInt64).toNat = 1 := by decide
    have e0 : (0 : UInt64).toNat = 0 := by decide
    omega
  dsimp only [lt]
  rw [e]
  split
  · rfl
  · by_cases h1 : k = 1
    · subst h1; simp [Bool.and_assoc]
    by_cases h3 : k = 3
    · subst h3; simp [Bool.and_assoc]
    by_cases h5 : k = 5
    · subst h5
      simp only [api_Op.mk.injEq, true_and]
      rw [Bool.eq_iff_iff]
      simp [and_assoc]
    · simp [h1, h3, h5]

theorem small_kind (k : Nat) (h : k ≤ 100) : i64 ((toW (k : Int)).toNat : Int) = (k : Int) := by
  rw [toW_len k (by omega)]
  exact i64_id (by omega) (by omega)

theorem op_take1 (key rest : Str) (hk' : key.length ≤ 64) (hc : op_Check ⟨1, key, [], 0, 0⟩ = true) : op_Take ⟨enc 11 (toW 1).toNat ++ (enc 11 key.length ++ (key ++ rest))⟩ = some (.inl (⟨1, key, [], 0, 0⟩, ⟨rest⟩)) := by
  unfold op_Take
  rw [num_back (toW 1) 5 _ (by decide), Option.bind_some]
  dsimp only [sm]
  have ek : i64 ((toW 1).toNat : Int) = 1 := by decide
  rw [ek]
  have em : decide ((1 : Int) ≤ 1) = true := by decide
  rw [em, must_ok]
  dsimp only [lt, sm]
  rw [if_neg (by decide), text_back key _ 64 (by omega) (by omega) (by decide), Option.bind_some]
  dsimp only [sm]
  rw [if_neg (by decide), Option.bind_some]
  dsimp only
  rw [if_neg (by decide), hc, must_ok]
theorem op_take3 (key rest : Str) (hk' : key.length ≤ 64) (hc : op_Check ⟨3, key, [], 0, 0⟩ = true) : op_Take ⟨enc 11 (toW 3).toNat ++ (enc 11 key.length ++ (key ++ rest))⟩ = some (.inl (⟨3, key, [], 0, 0⟩, ⟨rest⟩)) := by
  unfold op_Take
  rw [num_back (toW 3) 5 _ (by decide), Option.bind_some]
  dsimp only [sm]
  have ek : i64 ((toW 3).toNat : Int) = 3 := by decide
  rw [ek]
  have em : decide ((1 : Int) ≤ 3) = true := by decide
  rw [em, must_ok]
  dsimp only [lt, sm]
  rw [if_neg (by decide), text_back key _ 64 (by omega) (by omega) (by decide), Option.bind_some]
  dsimp only [sm]
  rw [if_neg (by decide), Option.bind_some]
  dsimp only
  rw [if_neg (by decide), hc, must_ok]
theorem op_there (o : api_Op) (h : op_Check o = true) : ∃ b, op_Put o = some b ∧ hawthornref10_Put o = some b ∧ b.length ≤ 5000 ∧ ∀ rest, op_Take ⟨b ++ rest⟩ = some (.inl (o, ⟨rest⟩)) := by
  obtain ⟨k, key, v, ttl, ver⟩ := o
  have hc := h
  unfold op_Check at h
  dsimp only [lt] at h
  split at h
  · cases h
  rename_i hb
  simp only [Bool.or_eq_true, decide_eq_true_eq, not_or, Int.not_lt] at hb
  obtain ⟨⟨hk, hv⟩, ht⟩ := hb
  have hk' : key.length ≤ 64 := by omega
  have hv' : v.length ≤ 4096 := by omega
  have httl : ttl ≤ 1073741824 := by
    rw [UInt64.le_iff_toNat_le]
    rw [UInt64.lt_iff_toNat_lt] at ht
    omega
  obtain ⟨tk1, tk2⟩ := text_bytes key (by omega)
  obtain ⟨tv1, tv2⟩ := text_bytes v (by omega)
  obtain ⟨nt1, nt2⟩ := num_enc ttl
  obtain ⟨nv1, nv2⟩ := num_enc ver
  obtain ⟨nk1, nk2⟩ := num_enc (toW k)
  have lk := enc_len 11 key.length
  have lv := enc_len 11 v.length
  have lt1 := enc_len 11 ttl.toNat
  have lve := enc_len 11 ver.toNat
  have lkk := enc_len 11 (toW k).toNat
  have hm1 : (1 : Int) = ((1 : Nat) : Int) := rfl
  by_cases h13 : k = 1 ∨ k = 3
  · have hrest : v = [] ∧ ttl = 0 ∧ ver = 0 := by
      rcases h13 with rfl | rfl <;> simp at h <;> exact ⟨h.1.1.2, h.1.2, h.2⟩
    obtain ⟨rfl, rfl, rfl⟩ := hrest
    refine ⟨enc 11 (toW k).toNat ++ (enc 11 key.length ++ key), ?_, ?_, by simp; omega, ?_⟩
    · unfold op_Put
      dsimp only
      rw [nk1, Option.bind_some]
      rcases h13 with rfl | rfl
      · rw [if_neg (by decide), if_pos (by decide), Option.bind_some, if_pos (by decide), tk1, Option.bind_some, if_pos (by simp [maxS]; omega)]
      · rw [if_neg (by decide), if_neg (by decide), Option.bind_some, if_pos (by decide), tk1, Option.bind_some, if_pos (by simp [maxS]; omega)]
    · unfold hawthornref10_Put
      dsimp only
      rw [nk2, Option.bind_some]
      rcases h13 with rfl | rfl
      · rw [if_pos (by decide), tk2, Option.bind_some, if_pos (by simp [maxS]; omega), Option.bind_some, if_neg (by decide), Option.bind_some, if_neg (by decide)]
      · rw [if_pos (by decide), tk2, Option.bind_some, if_pos (by simp [maxS]; omega), Option.bind_some, if_neg (by decide), Option.bind_some, if_neg (by decide)]
    · intro rest
      have e : (enc 11 (toW k).toNat ++ (enc 11 key.length ++ key)) ++ rest = enc 11 (toW k).toNat ++ (enc 11 key.length ++ (key ++ rest)) := by simp
      rw [e]
      rcases h13 with rfl | rfl
      · exact op_take1 key rest hk' hc
      · exact op_take3 key rest hk' hc
  · have h1 : k ≠ 1 := fun e => h13 (.inl e)
    have h3 : k ≠ 3 := fun e => h13 (.inr e)
    have b1 : (k == 1) = false := by simpa using h1
    have b3 : (k == 3) = false := by simpa using h3
    simp only [b1, b3, Bool.false_eq_true, if_false] at h
    by_cases h2 : k = 2
    · subst h2
      simp at h
      obtain ⟨_, rfl⟩ := h
      refine ⟨enc 11 (toW 2).toNat ++ ((enc 11 key.length ++ key) ++ ((enc 11 v.length ++ v) ++ enc 11 ttl.toNat)), ?_, ?_, by simp; omega, ?_⟩
      · unfold op_Put
        dsimp only
        rw [nk1, Option.bind_some, if_neg (by decide), if_neg (by decide), Option.bind_some, if_neg (by decide), if_pos (by decide), tk1, Option.bind_some, if_pos (by simp [maxS]; omega), tv1, Option.bind_some, if_pos (by simp [maxS]; omega), nt1, Option.bind_some, if_pos (by simp [maxS]; omega)]
        simp
      · unfold hawthornref10_Put
        dsimp only
        rw [nk2, Option.bind_some, if_pos (by decide), tk2, Option.bind_some, if_pos (by simp [maxS]; omega), Option.bind_some, if_pos (by decide), tv2, Option.bind_some, nt2, Option.bind_some, if_pos (by simp [maxS]; omega), if_pos (by simp [maxS]; omega), Option.bind_some, if_neg (by decide)]
        simp
      · intro rest
        have e : (enc 11 (toW 2).toNat ++ ((enc 11 key.length ++ key) ++ ((enc 11 v.length ++ v) ++ enc 11 ttl.toNat))) ++ rest = enc 11 (toW 2).toNat ++ (enc 11 key.length ++ (key ++ (enc 11 v.length ++ (v ++ (enc 11 ttl.toNat ++ rest))))) := by simp
        rw [e]
        unfold op_Take
        rw [num_back (toW 2) 5 _ (by decide), Option.bind_some]
        dsimp only [sm]
        have ek : i64 ((toW 2).toNat : Int) = 2 := by decide
        have em : decide ((1 : Int) ≤ 2) = true := by decide
        rw [ek, em, must_ok]
        dsimp only [lt, sm]
        rw [if_neg (by decide), text_back key _ 64 (by omega) (by omega) (by decide), Option.bind_some]
        dsimp only [sm]
        rw [if_pos (by decide), text_back v _ 4096 (by omega) (by omega) (by decide), Option.bind_some]
        dsimp only [sm]
        rw [num_back ttl _ _ httl, Option.bind_some]
        dsimp only [sm]
        rw [Option.bind_some]
        dsimp only
        rw [if_neg (by decide), hc, must_ok]
    · have b2 : (k == 2) = false := by simpa using h2
      by_cases h4 : k = 4
      · subst h4
        refine ⟨enc 11 (toW 4).toNat ++ ((enc 11 key.length ++ key) ++ ((enc 11 v.length ++ v) ++ (enc 11 ttl.toNat ++ enc 11 ver.toNat))), ?_, ?_, by simp; omega, ?_⟩
        · unfold op_Put
          dsimp only
          rw [nk1, Option.bind_some, if_neg (by decide), if_neg (by decide), Option.bind_some, if_neg (by decide), if_neg (by decide), tk1, Option.bind_some, if_pos (by simp [maxS]; omega), tv1, Option.bind_some, if_pos (by simp [maxS]; omega), nt1, Option.bind_some, if_pos (by simp [maxS]; omega), nv1, Option.bind_some, if_pos (by simp [maxS]; omega)]
          simp
        · unfold hawthornref10_Put
          dsimp only
          rw [nk2, Option.bind_some, if_pos (by decide), tk2, Option.bind_some, if_pos (by simp [maxS]; omega), Option.bind_some, if_pos (by decide), tv2, Option.bind_some, nt2, Option.bind_some, if_pos (by simp [maxS]; omega), if_pos (by simp [maxS]; omega), Option.bind_some, if_pos (by decide), nv2, Option.bind_some, if_pos (by simp [maxS]; omega)]
          simp
        · intro rest
          have e : (enc 11 (toW 4).toNat ++ ((enc 11 key.length ++ key) ++ ((enc 11 v.length ++ v) ++ (enc 11 ttl.toNat ++ enc 11 ver.toNat)))) ++ rest = enc 11 (toW 4).toNat ++ (enc 11 key.length ++ (key ++ (enc 11 v.length ++ (v ++ (enc 11 ttl.toNat ++ (enc 11 ver.toNat ++ rest)))))) := by simp
          rw [e]
          unfold op_Take
          rw [num_back (toW 4) 5 _ (by decide), Option.bind_some]
          dsimp only [sm]
          have ek : i64 ((toW 4).toNat : Int) = 4 := by decide
          have em : decide ((1 : Int) ≤ 4) = true := by decide
          rw [ek, em, must_ok]
          dsimp only [lt, sm]
          rw [if_neg (by decide), text_back key _ 64 (by omega) (by omega) (by decide), Option.bind_some]
          dsimp only [sm]
          rw [if_pos (by decide), text_back v _ 4096 (by omega) (by omega) (by decide), Option.bind_some]
          dsimp only [sm]
          rw [num_back ttl _ _ httl, Option.bind_some]
          dsimp only [sm]
          rw [Option.bind_some]
          dsimp only
          rw [if_pos (by decide), num_back ver _ _ (top_all ver), Option.bind_some]
          dsimp only [sm]
          rw [hc, must_ok]
      · have b4 : (k == 4) = false := by simpa using h4
        simp only [b2, b4, Bool.false_eq_true, if_false] at h
        have h5 : k = 5 ∧ key = [] ∧ v = [] ∧ ttl = 0 ∧ ver = 0 := by
          split at h
          · simpa using h
          · cases h
        obtain ⟨rfl, rfl, rfl, rfl, rfl⟩ := h5
        refine ⟨enc 11 (toW 5).toNat, ?_, ?_, by omega, ?_⟩
        · unfold op_Put
          dsimp only
          rw [nk1, Option.bind_some, if_pos (by decide)]
        · unfold hawthornref10_Put
          dsimp only
          rw [nk2, Option.bind_some, if_neg (by decide), Option.bind_some, if_neg (by decide), Option.bind_some, if_neg (by decide)]
        · intro rest
          unfold op_Take
          rw [num_back (toW 5) 5 _ (by decide), Option.bind_some]
          dsimp only [sm]
          have ek : i64 ((toW 5).toNat : Int) = 5 := by decide
          have em : decide ((1 : Int) ≤ 5) = true := by decide
          rw [ek, em, must_ok]
          dsimp only [lt, sm]
          rw [if_pos (by decide)]
theorem record_there (x : api_Record) (h : op_Check x.Op = true) : ∃ b, op_PutRecord x = some b ∧ hawthornref10_PutRecord x = some b ∧ b.length ≤ 5100 ∧ ∀ rest, op_TakeRecord ⟨b ++ rest⟩ = some (.inl (x, ⟨rest⟩)) := by
  obtain ⟨a, n, s, m, o⟩ := x
  obtain ⟨b, h1, h2, h3, h4⟩ := op_there o h
  obtain ⟨a1, a2⟩ := num_enc a
  obtain ⟨n1, n2⟩ := num_enc n
  obtain ⟨s1, s2⟩ := num_enc s
  obtain ⟨m1, m2⟩ := num_enc m
  have la := enc_len 11 a.toNat
  have ln := enc_len 11 n.toNat
  have ls := enc_len 11 s.toNat
  have lm := enc_len 11 m.toNat
  refine ⟨enc 11 a.toNat ++ (enc 11 n.toNat ++ (enc 11 s.toNat ++ (enc 11 m.toNat ++ b))), ?_, ?_, by simp; omega, ?_⟩
  · unfold op_PutRecord
    dsimp only
    rw [a1, Option.bind_some, n1, Option.bind_some, if_pos (by simp [maxS]; omega), s1, Option.bind_some, if_pos (by simp [maxS]; omega), m1, Option.bind_some, if_pos (by simp [maxS]; omega), h1, Option.bind_some, if_pos (by simp [maxS]; omega)]
    simp
  · unfold hawthornref10_PutRecord
    dsimp only
    rw [a2, Option.bind_some, n2, Option.bind_some, if_pos (by simp [maxS]; omega), s2, Option.bind_some, if_pos (by simp [maxS]; omega), m2, Option.bind_some, if_pos (by simp [maxS]; omega), h2, Option.bind_some, if_pos (by simp [maxS]; omega)]
    simp
  · intro rest
    have e : (enc 11 a.toNat ++ (enc 11 n.toNat ++ (enc 11 s.toNat ++ (enc 11 m.toNat ++ b)))) ++ rest = enc 11 a.toNat ++ (enc 11 n.toNat ++ (enc 11 s.toNat ++ (enc 11 m.toNat ++ (b ++ rest)))) := by simp
    rw [e]
    unfold op_TakeRecord
    rw [num_back a _ _ (top_all a), Option.bind_some]
    dsimp only [sm]
    rw [num_back n _ _ (top_all n), Option.bind_some]
    dsimp only [sm]
    rw [num_back s _ _ (top_all s), Option.bind_some]
    dsimp only [sm]
    rw [num_back m _ _ (top_all m), Option.bind_some]
    dsimp only [sm]
    rw [h4 rest, Option.bind_some]
theorem reply_there (x : api_Reply) (h0 : 0 ≤ x.E) (h1 : x.E ≤ 65535) (h2 : x.Value.length ≤ 4096) : ∃ b, op_PutReply x = some b ∧ hawthornref10_PutReply x = some b ∧ b.length ≤ 5000 ∧ ∀ rest, op_TakeReply ⟨b ++ rest⟩ = some (.inl (x, ⟨rest⟩)) := by
  obtain ⟨e, v, n⟩ := x
  dsimp only at h0 h1 h2
  obtain ⟨k, rfl⟩ : ∃ k : Nat, e = (k : Int) := ⟨e.toNat, by omega⟩
  obtain ⟨e1, e2⟩ := num_enc (toW (k : Int))
  obtain ⟨v1, v2⟩ := text_bytes v (by omega)
  obtain ⟨n1, n2⟩ := num_enc n
  have le := enc_len 11 (toW (k : Int)).toNat
  have lv := enc_len 11 v.length
  have ln := enc_len 11 n.toNat
  refine ⟨enc 11 (toW (k : Int)).toNat ++ ((enc 11 v.length ++ v) ++ enc 11 n.toNat), ?_, ?_, by simp; omega, ?_⟩
  · unfold op_PutReply
    dsimp only
    rw [e1, Option.bind_some, v1, Option.bind_some, if_pos (by simp [maxS]; omega), n1, Option.bind_some, if_pos (by simp [maxS]; omega)]
    simp
  · unfold hawthornref10_PutReply
    dsimp only
    rw [e2, Option.bind_some, v2, Option.bind_some, if_pos (by simp [maxS]; omega), n2, Option.bind_some, if_pos (by simp [maxS]; omega)]
    simp
  · intro rest
    have ee : (enc 11 (toW (k : Int)).toNat ++ ((enc 11 v.length ++ v) ++ enc 11 n.toNat)) ++ rest = enc 11 (toW (k : Int)).toNat ++ (enc 11 v.length ++ (v ++ (enc 11 n.toNat ++ rest))) := by simp
    rw [ee]
    unfold op_TakeReply
    have hk : toW (k : Int) ≤ 65535 := by
      rw [UInt64.le_iff_toNat_le, toW_len k (by omega)]
      have e0 : (65535 : UInt64).toNat = 65535 := by decide
      omega
    rw [num_back _ _ _ hk, Option.bind_some]
    dsimp only [sm]
    rw [text_back v _ 4096 (by omega) (by omega) (by decide), Option.bind_some]
    dsimp only [sm]
    rw [num_back n _ _ (top_all n), Option.bind_some]
    dsimp only [sm]
    have hi : i64 ((toW (k : Int)).toNat : Int) = (k : Int) := by
      rw [toW_len k (by omega)]
      exact i64_id (by omega) (by omega)
    rw [hi]
end Go.Proofs.Ytgnpffbgfmeinaa.Pure
