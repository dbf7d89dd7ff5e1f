import Derived.Test.YthngfieikhillaaW9
import Derived.Test.YthngfieikhillaaPwireS
import Derived.Test.YthngfieikhillaaPclA
import Derived.Test.YthngfieikhillaaPclT
import Derived.Test.YthngfieikhillaaPsealA
set_option linter.unusedVariables false
set_option linter.unusedSectionVars false
set_option linter.unusedSimpArgs false
set_option maxRecDepth 100000
set_option maxHeartbeats 8000000

namespace Go.Proofs.Ythngfieikhillaa.Pure
open Go Go.Proofs.Ythngfieikhillaa.Hw Go.Proofs.Ythngfieikhillaa

theorem ge0 {α : Type} (a b : List α) : (a ++ b).length = a.length + b.length := List.length_append
theorem put_v2 (v : api_View) (b : Int) (hb : (if decide (v = (⟨0, 0, 0, 0, 0, 0⟩ : api_View)) = true then some (-1) else some v.Backup) = some b) :
    cell_Put v = some (enc 11 v.V.toNat ++ (enc 11 (toW v.Primary).toNat ++ (enc 11 v.PLife.toNat ++ (enc 11 (toW (i64 (b + 1))).toNat ++ (enc 11 v.BLife.toNat ++ enc 11 v.Epoch.toNat))))) := by
  have l1 := enc_len 11 v.V.toNat
  have l2 := enc_len 11 (toW v.Primary).toNat
  have l3 := enc_len 11 v.PLife.toNat
  have l4 := enc_len 11 (toW (i64 (b + 1))).toNat
  have l5 := enc_len 11 v.BLife.toNat
  have l6 := enc_len 11 v.Epoch.toNat
  unfold cell_Put
  rw [hb, Option.bind_some, num_c, Option.bind_some, num_c, Option.bind_some, if_pos (by simp [maxS]; omega), num_c, Option.bind_some, if_pos (by simp [maxS]; omega), num_c, Option.bind_some, if_pos (by simp [maxS]; omega), num_c, Option.bind_some, if_pos (by simp [maxS]; omega), num_c, Option.bind_some, if_pos (by simp [maxS]; omega)]
  simp
theorem W_back (n : UInt64) (h : n.toNat ≤ 1048576) : toW (i64 ((n.toNat : Nat) : Int)) = n := by
  rw [i64_nat _ (by omega)]
  apply UInt64.toNat_inj.1
  rw [toW_big _ (by omega)]
theorem rd_view (s : Str) : Rd (cell_TakeView ⟨s⟩) s (fun v p => cell_Put v = some p) := by
  unfold cell_TakeView
  refine rd_bind (rd_num s _) fun n1 t1 p1 e1 q1 => ?_
  refine rd_bind (rd_num t1 _) fun n2 t2 p2 e2 q2 => ?_
  refine rd_bind (rd_num t2 _) fun n3 t3 p3 e3 q3 => ?_
  refine rd_bind (rd_num t3 _) fun n4 t4 p4 e4 q4 => ?_
  refine rd_bind (rd_num t4 _) fun n5 t5 p5 e5 q5 => ?_
  refine rd_bind (rd_num t5 _) fun n6 t6 p6 e6 q6 => ?_
  have m20 : (1048576 : UInt64).toNat = 1048576 := by decide
  have b2 : n2.toNat ≤ 1048576 := by have := UInt64.le_iff_toNat_le.1 q2.1; omega
  have b4 : n4.toNat ≤ 1048576 := by have := UInt64.le_iff_toNat_le.1 q4.1; omega
  have w2 := W_back n2 b2
  have w4 := W_back n4 b4
  have i2 : i64 ((n2.toNat : Nat) : Int) = (n2.toNat : Int) := i64_nat _ (by omega)
  have i4 : i64 ((n4.toNat : Nat) : Int) = (n4.toNat : Int) := i64_nat _ (by omega)
  dsimp only
  generalize i64 ((n2.toNat : Nat) : Int) = z2 at w2 i2
  generalize i64 ((n4.toNat : Nat) : Int) = z4 at w4 i4
  have k4 : i64 (z4 - 1) = z4 - 1 := i64_id (by omega) (by omega)
  have k5 : i64 ((z4 - 1) + 1) = z4 := by rw [i64_id (by omega) (by omega)]; omega
  rw [k4]
  by_cases hz : (⟨n1, z2, n3, z4 - 1, n5, n6⟩ : api_View) = ⟨0, 0, 0, -1, 0, 0⟩
  · rw [if_pos (by simpa using hz)]
    refine rd_ok ?_
    simp only [api_View.mk.injEq] at hz
    obtain ⟨rfl, rfl, rfl, hz4, rfl, rfl⟩ := hz
    have : z4 = 0 := by omega
    subst this
    rw [put_v2 _ (-1) rfl, q1.2, q2.2, q3.2, q4.2, q5.2, q6.2, ← w2, ← w4, List.append_nil]
    rfl
  · rw [if_neg (by simpa using hz), ltq]
    cases hc : cell_Check (⟨n1, z2, n3, z4 - 1, n5, n6⟩ : api_View) with
    | false => rw [must_no]; exact rd_err (e := 6) (by decide)
    | true =>
      rw [must_ok]
      refine rd_ok ?_
      have hne := (take_v _ hc []).1
      rw [put_v2 _ (z4 - 1) (by rw [if_neg (by simpa using hne)]), q1.2, q2.2, q3.2, q4.2, q5.2, q6.2, k5, List.append_nil]
      dsimp only
      rw [w2, w4]
theorem rd_reply (s : Str) (hs : s.length ≤ 10000) : Rd (op_TakeReply ⟨s⟩) s (fun v p => op_PutReply v = some p) := by
  unfold op_TakeReply
  refine rd_bind (rd_num s _) fun n1 t1 p1 e1 q1 => ?_
  refine rd_bind (rd_text t1 4096 (by decide)) fun n2 t2 p2 e2 q2 => ?_
  refine rd_bind (rd_num t2 _) fun n3 t3 p3 e3 q3 => ?_
  have m20 : (65535 : UInt64).toNat = 65535 := by decide
  have b1 : n1.toNat ≤ 65535 := by have := UInt64.le_iff_toNat_le.1 q1.1; omega
  have w1 := W_back n1 (by omega)
  dsimp only
  generalize i64 ((n1.toNat : Nat) : Int) = z1 at w1
  refine rd_ok ?_
  have l1 := enc_len 11 n1.toNat
  have l2 := enc_len 11 n2.length
  have l3 := enc_len 11 n3.toNat
  have := q2.1
  unfold op_PutReply
  dsimp only
  rw [w1, num_c, Option.bind_some, (text_bytes n2 (by omega)).1, Option.bind_some, if_pos (by simp [maxS]; omega), num_c, Option.bind_some, if_pos (by simp [maxS]; omega), q1.2, q2.2, q3.2]
  simp
theorem rd_promise (s : Str) (hs : s.length ≤ 10000) : Rd (say_takePromise ⟨s⟩) s (fun v p => say_putPromise v = some p) := by
  unfold say_takePromise
  refine rd_bind (rd_flag s) fun n1 t1 p1 e1 q1 => ?_
  refine rd_bind (rd_num t1 _) fun n2 t2 p2 e2 q2 => ?_
  refine rd_bind (rd_num t2 _) fun n3 t3 p3 e3 q3 => ?_
  refine rd_bind (rd_num t3 _) fun n4 t4 p4 e4 q4 => ?_
  refine rd_bind (rd_view t4) fun n5 t5 p5 e5 q5 => ?_
  refine rd_bind (rd_view t5) fun n6 t6 p6 e6 q6 => ?_
  refine rd_ok ?_
  have L1 := congrArg List.length e1
  have L2 := congrArg List.length e2
  have L3 := congrArg List.length e3
  have L4 := congrArg List.length e4
  have L5 := congrArg List.length e5
  have L6 := congrArg List.length e6
  simp only [ge0] at L1 L2 L3 L4 L5 L6
  unfold say_putPromise
  dsimp only
  rw [← q1, num_c, ← q2.2, Option.bind_some, if_pos (by (try simp only [ge0]); simp [maxS]; omega), num_c, ← q3.2, Option.bind_some, if_pos (by (try simp only [ge0]); simp [maxS]; omega), num_c, ← q4.2, Option.bind_some, if_pos (by (try simp only [ge0]); simp [maxS]; omega), q5, Option.bind_some, if_pos (by (try simp only [ge0]); simp [maxS]; omega), q6, Option.bind_some, if_pos (by (try simp only [ge0]); simp [maxS]; omega)]
  simp
theorem rd_piece (s : Str) (hs : s.length ≤ 10000) : Rd (say_takePiece ⟨s⟩) s (fun v p => say_putPiece v = some p) := by
  unfold say_takePiece
  refine rd_bind (rd_num s _) fun n1 t1 p1 e1 q1 => ?_
  have m : (8192 : UInt64).toNat = 8192 := by decide
  have b1 : n1.toNat ≤ 8192 := by have := UInt64.le_iff_toNat_le.1 q1.1; omega
  have w1 := W_back n1 (by omega)
  dsimp only
  rw [ltq]
  generalize i64 ((n1.toNat : Nat) : Int) = z1 at w1
  refine rd_bind (rd_num t1 _) fun n2 t2 p2 e2 q2 => ?_
  have b2 : n2.toNat ≤ 8192 := by have := UInt64.le_iff_toNat_le.1 q2.1; omega
  have w2 := W_back n2 (by omega)
  dsimp only
  rw [ltq]
  generalize i64 ((n2.toNat : Nat) : Int) = z2 at w2
  refine rd_bind (rd_text t2 1024 (by decide)) fun n3 t3 p3 e3 q3 => ?_
  refine rd_bind (rd_bytes t3 32 32 rfl) fun n4 t4 p4 e4 q4 => ?_
  refine rd_bind (rd_bytes t4 32 32 rfl) fun n5 t5 p5 e5 q5 => ?_
  refine rd_ok ?_
  have L1 := congrArg List.length e1
  have L2 := congrArg List.length e2
  have L3 := congrArg List.length e3
  have L4 := congrArg List.length e4
  have L5 := congrArg List.length e5
  simp only [ge0] at L1 L2 L3 L4 L5
  have h3 := q3.1
  unfold say_putPiece
  dsimp only
  rw [w1, num_c, ← q1.2, Option.bind_some, w2, num_c, ← q2.2, Option.bind_some, if_pos (by (try simp only [ge0]); simp [maxS]; omega), (text_bytes n3 (by omega)).1, ← q3.2, Option.bind_some, if_pos (by (try simp only [ge0]); simp [maxS]; omega), ← q4.1, if_pos (by (try simp only [ge0]); simp [maxS]; omega), ← q5.1, if_pos (by (try simp only [ge0]); simp [maxS]; omega)]
  simp
end Go.Proofs.Ythngfieikhillaa.Pure
