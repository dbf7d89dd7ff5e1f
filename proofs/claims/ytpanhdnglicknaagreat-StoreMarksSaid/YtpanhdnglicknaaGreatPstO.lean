import Derived.Test.YtpanhdnglicknaaGreatW3
import Derived.Test.YtpanhdnglicknaaGreatPskZ
import Derived.Test.YtpanhdnglicknaaGreatPskP
import Derived.Test.YtpanhdnglicknaaGreatPringA
import Derived.Test.YtpanhdnglicknaaGreatPringB
import Derived.Test.YtpanhdnglicknaaGreatPringC
import Derived.Test.YtpanhdnglicknaaGreatPringD
import Derived.Test.YtpanhdnglicknaaGreatPringE
import Derived.Test.YtpanhdnglicknaaGreatPringF
import Derived.Test.YtpanhdnglicknaaGreatPtinyZ
import Derived.Test.YtpanhdnglicknaaGreatPtinyB
import Derived.Test.YtpanhdnglicknaaGreatPtinyC
import Derived.Test.YtpanhdnglicknaaGreatPtinyY
import Derived.Test.YtpanhdnglicknaaGreatParcA
import Derived.Test.YtpanhdnglicknaaGreatParcB
import Derived.Test.YtpanhdnglicknaaGreatPpolA
import Derived.Test.YtpanhdnglicknaaGreatPstA
import Derived.Test.YtpanhdnglicknaaGreatPstB
import Derived.Test.YtpanhdnglicknaaGreatPstC
import Derived.Test.YtpanhdnglicknaaGreatPstD
import Derived.Test.YtpanhdnglicknaaGreatPstG
import Derived.Test.YtpanhdnglicknaaGreatPstH
set_option linter.unusedVariables false
set_option linter.unusedSectionVars false
set_option linter.unusedSimpArgs false
set_option maxRecDepth 100000
set_option maxHeartbeats 8000000

namespace Go.Proofs.YtpanhdnglicknaaGreat.Pure
open Go Go.Proofs.YtpanhdnglicknaaGreat.Hw Go.Proofs.YtpanhdnglicknaaGreat

theorem once_l0 (l : List api_Entry) (hl : l.length ≤ 5000) : ∀ (f i : Nat), f = l.length - i + 1 → i ≤ l.length → hawthornlaw12_StoreOnce_l0 l l f (i : Int) = some (.inl ()) := by
  intro f
  induction f with
  | zero => intro i h; omega
  | succ f ih =>
    intro i hf hi
    unfold hawthornlaw12_StoreOnce_l0
    by_cases c : i < l.length
    · rw [if_pos (by simpa using c), gN c, Option.bind_some, Option.bind_some, if_neg (by simp), i_a1 (by omega)]
      exact ih (i + 1) (by omega) (by omega)
    · rw [if_neg (by simpa using c)]
theorem seq_ok {q : UInt64} (h : q.toNat < 1000000) : (((q + 1) == 0) || (((q + 1) - 1) != q)) = false := by
  have c1 : (1 : UInt64).toNat = 1 := rfl
  have c0 : (0 : UInt64).toNat = 0 := rfl
  have hi1 : (q + 1).toNat = q.toNat + 1 := u1n (by omega)
  have e1 : q + 1 ≠ 0 := fun z => by have := congrArg UInt64.toNat z; rw [hi1, c0] at this; omega
  have e2 : q + 1 - 1 = q := by
    apply UInt64.toNat_inj.1
    rw [UInt64.toNat_sub_of_le _ _ (by rw [UInt64.le_iff_toNat_le, c1, hi1]; omega), hi1, c1]; omega
  rw [Bool.or_eq_false_iff]
  exact ⟨by rw [beq_eq_false_iff_ne]; exact e1, by rw [bne_eq_false_iff_eq]; exact e2⟩
theorem mx_ge {a b : UInt64} (h : b.toNat ≤ a.toNat) : mx a b = a := by apply UInt64.toNat_inj.1; rw [mx_n]; omega
/-- Asked again: the same is told, and nothing turns. -/
theorem again {n B N : Nat} {c : api_Config} {s : store_Store} {t : table_Table} {p : policy_Policy} {K : List Str} (h : SI n B N c s t p K) (hN : N < 1000000) {x : api_Record} {l : store_last} (hc : op_Check x.Op = true) (hk : x.Op.Kind ≠ 5)
    (hs : x.Seq = s.seq + 1) (hl : mget s.sessions x.Session = some l) (hn : x.Num.toNat ≤ l.num.toNat) (hw : x.Now.toNat ≤ s.now.toNat) :
    ∃ s' t' p' K', store_Store_Apply s x = some ((if x.Num = l.num then l.reply else ⟨122, [], 0⟩), 0, s') ∧ SI n B (N + 1) c s' t' p' K' ∧ s'.seq = s.seq + 1 ∧ s'.now = s.now ∧ s'.sessions = s.sessions ∧ s'.tally = s.tally ∧ t'.m = t.m := by
  obtain ⟨r, e, s', t', p', K', e1, hS', hx⟩ := h.apply hN x
  have hsn := h.sn
  rcases hx with ⟨_, _, _, z | z⟩ | ⟨rfl, _, _, hx⟩
  · rw [hc] at z; cases z
  · rw [hs, seq_ok (by omega)] at z; cases z
  · have hT : Told s x (if x.Num = l.num then l.reply else ⟨122, [], 0⟩) := by
      by_cases q : x.Num = l.num
      · rw [if_pos q]; exact .inl ⟨l, hl, .inl ⟨q, rfl⟩⟩
      · rw [if_neg q]; refine .inl ⟨l, hl, .inr ⟨?_, rfl⟩⟩
        rw [UInt64.lt_iff_toNat_lt]
        have : x.Num.toNat ≠ l.num.toNat := fun z => q (UInt64.toNat_inj.1 z)
        omega
    rcases hx.cs with ⟨q1, q2, q3, q4, q5, q6⟩ | ⟨_, q, _⟩
    · have er : r = (if x.Num = l.num then l.reply else ⟨122, [], 0⟩) := by
        rcases q3 with ⟨z, _⟩ | ⟨_, z⟩
        · exact absurd z hk
        · rcases z with ⟨l', hl', z⟩ | ⟨z, _⟩
          · rw [hl] at hl'; cases hl'
            rcases z with ⟨z1, z2⟩ | ⟨z1, z2⟩
            · rw [if_pos z1]; exact z2
            · rw [if_neg (fun w => by rw [w, UInt64.lt_iff_toNat_lt] at z1; omega)]; exact z2
          · rw [hl] at z; cases z
      have em : mx s.now x.Now = s.now := mx_ge hw
      refine ⟨s', t', p', K', by rw [e1, er], hS', hx.seq, by rw [hx.now, em], q1, q2, q6 fun k => ?_⟩
      rw [em]
      rintro ⟨y, hy, h1, h2⟩
      have := (h.en k y hy).2
      omega
    · exact absurd ⟨_, hT⟩ q
theorem StoreOnce (x : api_Config) (l : List hawthornlaw12_Act) (a : hawthornlaw12_Act) {p1 p2 p3 p4 : Prop} (_ : p1) (_ : p2) (_ : p3) (_ : p4) : hawthornlaw12_StoreOnce x l a = some true := by
  obtain ⟨n, B, c, s, now, e, ⟨⟨t, p, K, hS⟩, hP, hn⟩, hn2⟩ := played_ok x l
  obtain ⟨y, nx, e1, e2, h1, h2, h3, h4⟩ := rec_ok (store_Store_Seq s) now a (by omega)
  unfold hawthornlaw12_StoreOnce
  rw [e, Option.bind_some, awake12, Option.bind_some, if_neg (by simp)]
  dsimp only
  rw [om_some, e1, Option.bind_some]
  dsimp only
  obtain ⟨r, er, s1, t1, p1, K1, e3, hS1, hx⟩ := hS.apply (by omega) ⟨store_Store_Seq s + 1, y.Now, y.Session, 40, y.Op⟩
  rw [e3, Option.bind_some]
  by_cases hc : ((er != 0) || (y.Op.Kind == 5)) || (r.E == 3)
  · rw [if_pos hc]
  · rw [if_neg hc]
    simp only [Bool.or_eq_true, bne_iff_ne, ne_eq, beq_iff_eq, not_or, Decidable.not_not] at hc
    obtain ⟨⟨z1, z2⟩, z3⟩ := hc
    rcases hx with ⟨z, _⟩ | ⟨_, hck, _, hx⟩
    · exact absurd z1 z
    · dsimp only at hck
      have c40 : (40 : UInt64).toNat = 40 := rfl
      have c39 : (39 : UInt64).toNat = 39 := rfl
      rcases hx.cs with ⟨_, _, q, _⟩ | ⟨_, _, q1, _⟩
      · exfalso
        rcases q with ⟨q, _⟩ | ⟨_, ⟨l', hl', q⟩ | ⟨_, _, q⟩⟩
        · exact z2 q
        · have := (hP _ _ hl').2
          rcases q with ⟨q, _⟩ | ⟨q, _⟩
          · dsimp only at q; rw [← q, c40] at this; omega
          · dsimp only at q; rw [UInt64.lt_iff_toNat_lt, c40] at q; omega
        · rw [q] at z3; exact z3 rfl
      · dsimp only at q1
        have hl1 : mget s1.sessions y.Session = some ⟨40, r⟩ := by rw [q1, mget_put, if_pos (by simp)]
        have hsq : s1.seq = store_Store_Seq s + 1 := hx.seq
        have hnw : y.Now.toNat ≤ s1.now.toNat := by rw [hx.now, mx_n]; dsimp only; omega
        obtain ⟨s2, t2, p2, K2, e4, hS2, a1, a2, a3, a4, a5⟩ := again hS1 (by omega) (x := ⟨store_Store_Seq s + 1 + 1, y.Now, y.Session, 40, y.Op⟩) hck z2 (by rw [hsq]) hl1 (Nat.le_refl _) hnw
        obtain ⟨s3, t3, p3, K3, e5, hS3, b1, b2, b3, b4, b5⟩ := again hS2 (by omega) (x := ⟨store_Store_Seq s + 1 + 1 + 1, y.Now, y.Session, 39, y.Op⟩) (l := ⟨40, r⟩) hck z2 (by rw [a1, hsq]) (by rw [a3]; exact hl1) (by rw [c39]; show 39 ≤ (40 : UInt64).toNat; omega) (by rw [a2]; exact hnw)
        rw [if_pos rfl] at e4
        rw [if_neg (by dsimp only; decide)] at e5
        have hl := hS1.tb.len
        have hK := hS1.tb.le
        rw [hS1.ent, Option.bind_some, e4, Option.bind_some]
        dsimp only
        rw [e5, Option.bind_some, hS3.ent, Option.bind_some, b5, a5]
        have ht : store_Store_Tally s3 = store_Store_Tally s1 := by unfold store_Store_Tally; rw [b4, a4]
        dsimp only
        rw [if_neg (by simp), Option.bind_some, ht, if_neg (by simp)]
        have hll := listed_len t1.m
        rw [show hawthornlaw12_StoreOnce_l0 (listed t1.m) (listed t1.m) ((((listed t1.m).length : Int) - 0).toNat + 1) 0 = _ from once_l0 (listed t1.m) (by omega) _ 0 (by omega) (by omega), Option.bind_some]
end Go.Proofs.YtpanhdnglicknaaGreat.Pure
