import Derived.Test.YthngfieikhillaaW9
import Derived.Test.YthngfieikhillaaPwireS
import Derived.Test.YthngfieikhillaaPclA
import Derived.Test.YthngfieikhillaaPclT
import Derived.Test.YthngfieikhillaaPsealA
import Derived.Test.YthngfieikhillaaPsealB
set_option linter.unusedVariables false
set_option linter.unusedSectionVars false
set_option linter.unusedSimpArgs false
set_option maxRecDepth 100000
set_option maxHeartbeats 8000000

namespace Go.Proofs.Ythngfieikhillaa.Pure
open Go Go.Proofs.Ythngfieikhillaa.Hw Go.Proofs.Ythngfieikhillaa

theorem small5 (n : UInt64) (h : n ≤ 5) : n = 0 ∨ n = 1 ∨ n = 2 ∨ n = 3 ∨ n = 4 ∨ n = 5 := by
  have m : (5 : UInt64).toNat = 5 := by decide
  have b : n.toNat ≤ 5 := by have := UInt64.le_iff_toNat_le.1 h; omega
  have : n.toNat = 0 ∨ n.toNat = 1 ∨ n.toNat = 2 ∨ n.toNat = 3 ∨ n.toNat = 4 ∨ n.toNat = 5 := by omega
  rcases this with h | h | h | h | h | h
  · exact .inl (UInt64.toNat_inj.1 h)
  · exact .inr (.inl (UInt64.toNat_inj.1 h))
  · exact .inr (.inr (.inl (UInt64.toNat_inj.1 h)))
  · exact .inr (.inr (.inr (.inl (UInt64.toNat_inj.1 h))))
  · exact .inr (.inr (.inr (.inr (.inl (UInt64.toNat_inj.1 h)))))
  · exact .inr (.inr (.inr (.inr (.inr (UInt64.toNat_inj.1 h)))))
theorem rd_must {α : Type} {b : Bool} {rd : wire_Reader} {s : Str} {Q : α → Str → Prop} {K : Unit → Option ((α × wire_Reader) ⊕ (Int × wire_Reader))} (h : b = true → Rd (K ()) s Q) :
    Rd (lt (wire_Reader_Must rd b) fun r => sm r K fun ((n, _) : Int × Unit) => some (.inr (n, rd))) s Q := by
  cases b with
  | true => exact h rfl
  | false => exact rd_err (e := 6) (by decide)
/-- What an operation's bytes are behind its kind. -/
theorem op_p1 (key : Str) (k : Int) (hk : k = 1 ∨ k = 3) (hl : key.length ≤ 64) (pk : Str) (hp : pk = enc 11 (toW k).toNat) : op_Put ⟨k, key, [], 0, 0⟩ = some (pk ++ (enc 11 key.length ++ key)) := by
  have l1 := enc_len 11 (toW k).toNat
  have l2 := enc_len 11 key.length
  unfold op_Put
  rcases hk with rfl | rfl
  · dsimp only
    rw [num_c, Option.bind_some, if_neg (by decide), if_pos (by decide), Option.bind_some, if_pos (by decide), (text_bytes key (by omega)).1, Option.bind_some, if_pos (by simp [maxS]; omega), hp]
  · dsimp only
    rw [num_c, Option.bind_some, if_neg (by decide), if_neg (by decide), Option.bind_some, if_pos (by decide), (text_bytes key (by omega)).1, Option.bind_some, if_pos (by simp [maxS]; omega), hp]
theorem op_p2 (key v : Str) (ttl : UInt64) (hl : key.length ≤ 64) (hv : v.length ≤ 4096) : op_Put ⟨2, key, v, ttl, 0⟩ = some (enc 11 (toW 2).toNat ++ ((enc 11 key.length ++ key) ++ ((enc 11 v.length ++ v) ++ enc 11 ttl.toNat))) := by
  have l1 := enc_len 11 (toW 2).toNat
  have l2 := enc_len 11 key.length
  have l3 := enc_len 11 v.length
  have l4 := enc_len 11 ttl.toNat
  unfold op_Put
  dsimp only
  rw [num_c, Option.bind_some, if_neg (by decide), if_neg (by decide), Option.bind_some, if_neg (by decide), if_pos (by decide), (text_bytes key (by omega)).1, Option.bind_some, if_pos (by simp [maxS]; omega), (text_bytes v (by omega)).1, Option.bind_some, if_pos (by simp [maxS]; omega), num_c, Option.bind_some, if_pos (by simp [maxS]; omega)]
  simp
theorem op_p4 (key v : Str) (ttl ver : UInt64) (hl : key.length ≤ 64) (hv : v.length ≤ 4096) : op_Put ⟨4, key, v, ttl, ver⟩ = some (enc 11 (toW 4).toNat ++ ((enc 11 key.length ++ key) ++ ((enc 11 v.length ++ v) ++ (enc 11 ttl.toNat ++ enc 11 ver.toNat)))) := by
  have l1 := enc_len 11 (toW 4).toNat
  have l2 := enc_len 11 key.length
  have l3 := enc_len 11 v.length
  have l4 := enc_len 11 ttl.toNat
  have l5 := enc_len 11 ver.toNat
  unfold op_Put
  dsimp only
  rw [num_c, Option.bind_some, if_neg (by decide), if_neg (by decide), Option.bind_some, if_neg (by decide), if_neg (by decide), (text_bytes key (by omega)).1, Option.bind_some, if_pos (by simp [maxS]; omega), (text_bytes v (by omega)).1, Option.bind_some, if_pos (by simp [maxS]; omega), num_c, Option.bind_some, if_pos (by simp [maxS]; omega), num_c, Option.bind_some, if_pos (by simp [maxS]; omega)]
  simp
theorem rd_op (s : Str) : Rd (op_Take ⟨s⟩) s (fun v p => op_Put v = some p) := by
  unfold op_Take
  refine rd_bind (rd_num s _) fun n1 t1 p1 e1 q1 => ?_
  dsimp only
  rcases small5 n1 q1.1 with rfl | rfl | rfl | rfl | rfl | rfl
  · rw [show i64 (((0 : UInt64).toNat : Nat) : Int) = 0 by decide]
    refine rd_must fun h => ?_
    exact absurd h (by decide)
  · rw [show i64 (((1 : UInt64).toNat : Nat) : Int) = 1 by decide]
    refine rd_must fun _ => ?_
    rw [if_neg (by decide)]
    refine rd_bind (rd_text t1 64 (by decide)) fun key t2 p2 e2 q2 => ?_
    rw [if_neg (by decide), Option.bind_some]
    dsimp only
    rw [if_neg (by decide)]
    refine rd_must fun _ => ?_
    refine rd_ok ?_
    rw [op_p1 key 1 (.inl rfl) q2.1 p1 q1.2, q2.2, List.append_nil]
  · rw [show i64 (((2 : UInt64).toNat : Nat) : Int) = 2 by decide]
    refine rd_must fun _ => ?_
    rw [if_neg (by decide)]
    refine rd_bind (rd_text t1 64 (by decide)) fun key t2 p2 e2 q2 => ?_
    rw [if_pos (by decide)]
    dsimp only
    rcases rd_text t2 4096 (by decide) with ⟨v, t3, p3, f3, e3, q3⟩ | ⟨e, o, f3, he⟩
    · have f3 : wire_Reader_Text ⟨t2⟩ 4096 = some (.inl (v, ⟨t3⟩)) := f3
      rw [f3, Option.bind_some]
      dsimp only [sm]
      rcases rd_num t3 1073741824 with ⟨ttl, t4, p4, f4, e4, q4⟩ | ⟨e, o, f4, he⟩
      · rw [f4, Option.bind_some]
        dsimp only [sm]
        rw [Option.bind_some]
        dsimp only
        rw [if_neg (by decide)]
        refine (rd_must (Q := fun v q => op_Put v = some (p1 ++ (p2 ++ (p3 ++ (p4 ++ q))))) fun _ => rd_ok ?_).elim (fun ⟨x, t, p, a, b, c⟩ => .inl ⟨x, t, p3 ++ (p4 ++ p), a, by rw [e3, e4, b]; simp, c⟩) .inr
        rw [op_p2 key v ttl q2.1 q3.1, q1.2, q2.2, q3.2, q4.2, List.append_nil]
        rfl
      · rw [f4, Option.bind_some]
        exact .inr ⟨e, o, rfl, he⟩
    · have f3 : wire_Reader_Text ⟨t2⟩ 4096 = some (.inr (e, o)) := f3
      rw [f3, Option.bind_some]
      exact .inr ⟨e, o, rfl, he⟩
  · rw [show i64 (((3 : UInt64).toNat : Nat) : Int) = 3 by decide]
    refine rd_must fun _ => ?_
    rw [if_neg (by decide)]
    refine rd_bind (rd_text t1 64 (by decide)) fun key t2 p2 e2 q2 => ?_
    rw [if_neg (by decide), Option.bind_some]
    dsimp only
    rw [if_neg (by decide)]
    refine rd_must fun _ => ?_
    refine rd_ok ?_
    rw [op_p1 key 3 (.inr rfl) q2.1 p1 q1.2, q2.2, List.append_nil]
  · rw [show i64 (((4 : UInt64).toNat : Nat) : Int) = 4 by decide]
    refine rd_must fun _ => ?_
    rw [if_neg (by decide)]
    refine rd_bind (rd_text t1 64 (by decide)) fun key t2 p2 e2 q2 => ?_
    rw [if_pos (by decide)]
    dsimp only
    rcases rd_text t2 4096 (by decide) with ⟨v, t3, p3, f3, e3, q3⟩ | ⟨e, o, f3, he⟩
    · have f3 : wire_Reader_Text ⟨t2⟩ 4096 = some (.inl (v, ⟨t3⟩)) := f3
      rw [f3, Option.bind_some]
      dsimp only [sm]
      rcases rd_num t3 1073741824 with ⟨ttl, t4, p4, f4, e4, q4⟩ | ⟨e, o, f4, he⟩
      · rw [f4, Option.bind_some]
        dsimp only [sm]
        rw [Option.bind_some]
        dsimp only
        rw [if_pos (by decide)]
        refine (rd_bind (Q := fun v q => op_Put v = some (p1 ++ (p2 ++ (p3 ++ (p4 ++ q))))) (rd_num t4 _) fun ver t5 p5 e5 q5 => ?_).elim (fun ⟨x, t, p, a, b, c⟩ => .inl ⟨x, t, p3 ++ (p4 ++ p), a, by rw [e3, e4, b]; simp, c⟩) .inr
        refine rd_must fun _ => rd_ok ?_
        rw [op_p4 key v ttl ver q2.1 q3.1, q1.2, q2.2, q3.2, q4.2, q5.2, List.append_nil]
        rfl
      · rw [f4, Option.bind_some]
        exact .inr ⟨e, o, rfl, he⟩
    · have f3 : wire_Reader_Text ⟨t2⟩ 4096 = some (.inr (e, o)) := f3
      rw [f3, Option.bind_some]
      exact .inr ⟨e, o, rfl, he⟩
  · rw [show i64 (((5 : UInt64).toNat : Nat) : Int) = 5 by decide]
    refine rd_must fun _ => ?_
    rw [if_pos (by decide)]
    refine rd_ok ?_
    unfold op_Put
    dsimp only
    rw [num_c, Option.bind_some, if_pos (by decide), q1.2, List.append_nil]
    rfl
theorem rd_record (s : Str) (hs : s.length ≤ 10000) : Rd (op_TakeRecord ⟨s⟩) s (fun v p => op_PutRecord v = some p) := by
  unfold op_TakeRecord
  refine rd_bind (rd_num s _) fun n1 t1 p1 e1 q1 => ?_
  refine rd_bind (rd_num t1 _) fun n2 t2 p2 e2 q2 => ?_
  refine rd_bind (rd_num t2 _) fun n3 t3 p3 e3 q3 => ?_
  refine rd_bind (rd_num t3 _) fun n4 t4 p4 e4 q4 => ?_
  refine rd_bind (rd_op t4) fun n5 t5 p5 e5 q5 => ?_
  refine rd_ok ?_
  have L1 := congrArg List.length e1
  have L2 := congrArg List.length e2
  have L3 := congrArg List.length e3
  have L4 := congrArg List.length e4
  have L5 := congrArg List.length e5
  simp only [ge0] at L1 L2 L3 L4 L5
  unfold op_PutRecord
  dsimp only
  rw [num_c, ← q1.2, Option.bind_some, num_c, ← q2.2, Option.bind_some, if_pos (by (try simp only [ge0]); simp [maxS]; omega), num_c, ← q3.2, Option.bind_some, if_pos (by (try simp only [ge0]); simp [maxS]; omega), num_c, ← q4.2, Option.bind_some, if_pos (by (try simp only [ge0]); simp [maxS]; omega), q5, Option.bind_some, if_pos (by (try simp only [ge0]); simp [maxS]; omega)]
  simp
end Go.Proofs.Ythngfieikhillaa.Pure
