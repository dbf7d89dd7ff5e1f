import Derived.Test.YtpanhdnglicknaaGreatW3
import Derived.Test.YtpanhdnglicknaaGreatPskZ
import Derived.Test.YtpanhdnglicknaaGreatPskP
import Derived.Test.YtpanhdnglicknaaGreatPringA
import Derived.Test.YtpanhdnglicknaaGreatPringB
import Derived.Test.YtpanhdnglicknaaGreatPringC
import Derived.Test.YtpanhdnglicknaaGreatPringD
import Derived.Test.YtpanhdnglicknaaGreatPringE
import Derived.Test.YtpanhdnglicknaaGreatPringF
import Derived.Test.YtpanhdnglicknaaGreatPtinyZ
import Derived.Test.YtpanhdnglicknaaGreatPtinyB
import Derived.Test.YtpanhdnglicknaaGreatPtinyC
import Derived.Test.YtpanhdnglicknaaGreatPtinyY
import Derived.Test.YtpanhdnglicknaaGreatParcA
import Derived.Test.YtpanhdnglicknaaGreatParcB
import Derived.Test.YtpanhdnglicknaaGreatPpolA
import Derived.Test.YtpanhdnglicknaaGreatPstA
import Derived.Test.YtpanhdnglicknaaGreatPstB
import Derived.Test.YtpanhdnglicknaaGreatPstC
import Derived.Test.YtpanhdnglicknaaGreatPstD
import Derived.Test.YtpanhdnglicknaaGreatPstG
import Derived.Test.YtpanhdnglicknaaGreatPstH
import Derived.Test.YtpanhdnglicknaaGreatPstO
import Derived.Test.YtpanhdnglicknaaGreatPstX
set_option linter.unusedVariables false
set_option linter.unusedSectionVars false
set_option linter.unusedSimpArgs false
set_option maxRecDepth 100000
set_option maxHeartbeats 8000000

namespace Go.Proofs.YtpanhdnglicknaaGreat.Pure
open Go Go.Proofs.YtpanhdnglicknaaGreat.Hw Go.Proofs.YtpanhdnglicknaaGreat

/-- The sessions of the law: one, with a number below the next one. -/
def SZ (i : Nat) (ss : List (UInt64 × store_last)) : Prop := (ss = [] ∨ ∃ l, ss = [(0, l)] ∧ l.num.toNat ≤ i)
theorem tal_l0 (l : List api_Op) (n B : Nat) (c : api_Config) (r1 : Option store_Store × Int) (hr : r1.2 = 0) : ∀ (f i : Nat) (s : store_Store) (A H : Int), f = l.length - i + 1 → i ≤ l.length → i ≤ 80 → (∃ t p K, SI n B i c s t p K) → SZ i s.sessions → s.tally = ⟨A, H⟩ →
    ∃ s' A' H', hawthornlaw12_StoreTally_l0 l r1 f (some s) A H (i : Int) = some (.inl (some s', A', H')) ∧ s'.tally = ⟨A', H'⟩ := by
  intro f
  induction f with
  | zero => intro i s A H h; omega
  | succ f ih =>
    intro i s A H hf hi hi2 h h0 ht
    unfold hawthornlaw12_StoreTally_l0
    by_cases hc : i < l.length ∧ i < 80
    · have w1 := toW_n (j := i) (by omega)
      have w2 := toW_n (j := i + 1) (by omega)
      have c0 : (0 : UInt64).toNat = 0 := rfl
      obtain ⟨y, nx, e1, e2, q1, q2, q3, q4⟩ := rec_ok (store_Store_Seq s) 0 (⟨0, 0, toW (i : Int), l[i], 0⟩ : hawthornlaw12_Act) (by rw [c0]; omega)
      have hy : y.Session = 0 := by
        unfold hawthornlaw12_record at e1
        obtain ⟨k, hk⟩ := cutS l[i].Key 70 (by omega)
        obtain ⟨v, hv⟩ := cutS l[i].Value 1200 (by omega)
        have hk : (if decide ((70 : Int) < (l[i].Key.length : Int)) then (sl l[i].Key 0 70).bind fun s => some s else some l[i].Key) = some k := hk
        have hv : (if decide ((1200 : Int) < (l[i].Value.length : Int)) then (sl l[i].Value 0 1200).bind fun s => some s else some l[i].Value) = some v := hv
        dsimp only at e1
        rw [hk, Option.bind_some, hv, Option.bind_some, if_pos (show decide ((0 : UInt64) ≤ 100) = true from rfl), Option.bind_some] at e1
        have q := congrArg (fun q : api_Record × UInt64 => q.1.Session) (Option.some.inj e1)
        exact (show (0 &&& 7 : UInt64) = y.Session from q).symm.trans (by decide)
      obtain ⟨t, p, K, hS⟩ := h
      obtain ⟨r, er, s', t', p', K', e3, hS', hx⟩ := hS.apply (by omega) ⟨y.Seq, y.Now, y.Session, toW ((i + 1 : Nat) : Int), y.Op⟩
      have hE : ∃ l', mget s.sessions (0 : UInt64) = l' ∧ ∀ z, l' = some z → z.num.toNat ≤ i := by
        rcases h0 with h0 | ⟨z, h0, hz⟩
        · exact ⟨none, by rw [h0]; rfl, fun _ q => by cases q⟩
        · exact ⟨some z, by rw [h0]; rfl, fun w q => by cases q; exact hz⟩
      obtain ⟨l', hl', hz⟩ := hE
      have hT : ¬ ∃ r, Told s (⟨y.Seq, y.Now, y.Session, toW ((i + 1 : Nat) : Int), y.Op⟩ : api_Record) r := by
        rintro ⟨r, ⟨z, hz1, q⟩ | ⟨_, q, _⟩⟩
        · dsimp only at hz1 q
          rw [hy, hl'] at hz1
          have := hz z hz1
          rcases q with ⟨q, _⟩ | ⟨q, _⟩
          · rw [← q, w2] at this; omega
          · rw [UInt64.lt_iff_toNat_lt, w2] at q; omega
        · rcases h0 with h0 | ⟨z, h0, _⟩ <;> rw [h0] at q <;> simp at q
      have hM : SZ (i + 1) (mput s.sessions 0 ⟨toW ((i + 1 : Nat) : Int), r⟩) := by
        right
        rcases h0 with h0 | ⟨z, h0, _⟩
        · exact ⟨_, by rw [h0]; rfl, by dsimp only; omega⟩
        · exact ⟨_, by rw [h0]; rfl, by dsimp only; omega⟩
      have hU : SZ (i + 1) s.sessions := by
        rcases h0 with h0 | ⟨z, h0, hz⟩
        · exact .inl h0
        · exact .inr ⟨z, h0, by omega⟩
      have hr0 : (r1.2 == 0) = true := by rw [hr]; rfl
      rw [if_pos (by rw [hr0]; simp; omega), om_some, gN hc.1, Option.bind_some, e1, Option.bind_some]
      dsimp only
      rw [i_a1 (by omega), e3, Option.bind_some]
      dsimp only
      rcases hx with ⟨z1, rfl, rfl, _⟩ | ⟨rfl, hck, _, hx⟩
      · -- it is refused
        rw [if_neg (by simp [z1]), Option.bind_some]
        exact ih (i + 1) s' A H (by omega) (by omega) (by omega) ⟨_, _, _, hS'⟩ hU ht
      · rcases hx.cs with ⟨a1, a2, a3, _⟩ | ⟨b1, _, b3, b4, b5⟩
        · rcases a3 with ⟨a3, _⟩ | ⟨_, a3⟩
          · dsimp only at a3
            rw [if_neg (by rw [a3]; decide), Option.bind_some]
            exact ih (i + 1) s' A H (by omega) (by omega) (by omega) ⟨_, _, _, hS'⟩ (by rw [a1]; exact hU) (by rw [a2]; exact ht)
          · exact absurd ⟨_, a3⟩ hT
        · dsimp only at b3 b4 b5
          rw [hy] at b3
          by_cases k1 : y.Op.Kind = 1
          · rw [if_pos (by rw [k1]; rfl)]
            rcases b4 k1 with ⟨b4, b6⟩ | ⟨b4, b6⟩
            · rw [if_pos (by rw [b4]; rfl), Option.bind_some]
              dsimp only
              rw [Option.bind_some]
              dsimp only
              exact ih (i + 1) s' _ _ (by omega) (by omega) (by omega) ⟨_, _, _, hS'⟩ (by rw [b3]; exact hM) (by rw [b6, ht])
            · rw [if_neg (by rw [b4]; decide), if_neg (by rw [b4]; decide), Option.bind_some]
              dsimp only
              rw [Option.bind_some]
              dsimp only
              exact ih (i + 1) s' _ _ (by omega) (by omega) (by omega) ⟨_, _, _, hS'⟩ (by rw [b3]; exact hM) (by rw [b6, ht])
          · rw [if_neg (by simp [k1]), Option.bind_some]
            exact ih (i + 1) s' A H (by omega) (by omega) (by omega) ⟨_, _, _, hS'⟩ (by rw [b3]; exact hM) (by rw [b5 k1]; exact ht)
    · rw [if_neg (by simp; omega)]
      exact ⟨s, A, H, rfl, ht⟩
theorem StoreTally (x : api_Config) (l : List api_Op) {p1 p2 p3 : Prop} (_ : p1) (_ : p2) (_ : p3) : hawthornlaw12_StoreTally x l = some true := by
  obtain ⟨k, n, B, e, hk, h1, h2, h3, h4⟩ := cfg_ok x
  obtain ⟨s, t, p, K, e2, hS, hs, hn, hty, _⟩ := si_new hk x.Seed h1 h2 h3 h4
  obtain ⟨s', A', H', L, ht'⟩ := tal_l0 l n B _ (some s, 0) rfl (((l.length : Int) - 0).toNat + 1) 0 s 0 0 (by omega) (by omega) (by omega) ⟨t, p, K, hS⟩ (.inl hs) hty
  unfold hawthornlaw12_StoreTally
  rw [e, e2, Option.bind_some]
  dsimp only
  rw [show hawthornlaw12_StoreTally_l0 l (some s, 0) (((l.length : Int) - 0).toNat + 1) (some s) 0 0 0 = _ from L, Option.bind_some]
  dsimp only
  rw [awake12, Option.bind_some, om_some, if_pos (by rfl)]
  unfold store_Store_Tally
  rw [ht']; simp
end Go.Proofs.YtpanhdnglicknaaGreat.Pure
