import Derived.Test.YtpanhdnglicknaaGreatW3
import Derived.Test.YtpanhdnglicknaaGreatPskZ
import Derived.Test.YtpanhdnglicknaaGreatPskP
import Derived.Test.YtpanhdnglicknaaGreatPringA
import Derived.Test.YtpanhdnglicknaaGreatPringB
import Derived.Test.YtpanhdnglicknaaGreatPringC
import Derived.Test.YtpanhdnglicknaaGreatPringD
import Derived.Test.YtpanhdnglicknaaGreatPringE
import Derived.Test.YtpanhdnglicknaaGreatPringF
import Derived.Test.YtpanhdnglicknaaGreatPtinyZ
import Derived.Test.YtpanhdnglicknaaGreatPtinyB
import Derived.Test.YtpanhdnglicknaaGreatPtinyC
import Derived.Test.YtpanhdnglicknaaGreatPtinyY
import Derived.Test.YtpanhdnglicknaaGreatParcA
import Derived.Test.YtpanhdnglicknaaGreatParcB
import Derived.Test.YtpanhdnglicknaaGreatPpolA
import Derived.Test.YtpanhdnglicknaaGreatPstA
import Derived.Test.YtpanhdnglicknaaGreatPstB
import Derived.Test.YtpanhdnglicknaaGreatPstC
import Derived.Test.YtpanhdnglicknaaGreatPstD
import Derived.Test.YtpanhdnglicknaaGreatPstG
set_option linter.unusedVariables false
set_option linter.unusedSectionVars false
set_option linter.unusedSimpArgs false
set_option maxRecDepth 100000
set_option maxHeartbeats 8000000

namespace Go.Proofs.YtpanhdnglicknaaGreat.Pure
open Go Go.Proofs.YtpanhdnglicknaaGreat.Hw Go.Proofs.YtpanhdnglicknaaGreat

theorem cutS (k : Str) (m : Nat) (hm : m ≤ 5000) : ∃ r, (if decide ((m : Int) < (k.length : Int)) then (sl k 0 (m : Int)).bind fun s => some s else some k) = some r := by
  by_cases h : m < k.length
  · rw [if_pos (by simp; omega)]
    unfold sl
    rw [if_pos (by omega)]
    exact ⟨_, rfl⟩
  · rw [if_neg (by simp; omega)]
    exact ⟨_, rfl⟩
theorem and_le (a : UInt64) (m : Nat) (hm : m < 1000) : (a &&& UInt64.ofNat m).toNat ≤ m := by
  rw [UInt64.toNat_and, UInt64.toNat_ofNat']
  exact Nat.le_trans Nat.and_le_right (Nat.mod_le _ _)
theorem rec_ok (sq now : UInt64) (a : hawthornlaw12_Act) (hn : now.toNat ≤ 1000000) : ∃ y nx, hawthornlaw12_record sq now a = some (y, nx) ∧ y.Now = nx ∧ y.Session.toNat < 8 ∧ y.Num.toNat ≤ 31 ∧ now.toNat ≤ nx.toNat ∧ nx.toNat ≤ now.toNat + 100 := by
  obtain ⟨k, hk⟩ := cutS a.Op.Key 70 (by omega)
  obtain ⟨v, hv⟩ := cutS a.Op.Value 1200 (by omega)
  have hk : (if decide ((70 : Int) < (a.Op.Key.length : Int)) then (sl a.Op.Key 0 70).bind fun s => some s else some a.Op.Key) = some k := hk
  have hv : (if decide ((1200 : Int) < (a.Op.Value.length : Int)) then (sl a.Op.Value 0 1200).bind fun s => some s else some a.Op.Value) = some v := hv
  have c100 : (100 : UInt64).toNat = 100 := rfl
  have hT : ∃ nx : UInt64, (if decide (a.Ticks ≤ 100) = true then some (now + a.Ticks) else some now) = some nx ∧ now.toNat ≤ nx.toNat ∧ nx.toNat ≤ now.toNat + 100 := by
    by_cases c : a.Ticks ≤ 100
    · rw [if_pos (by simpa using c)]
      rw [UInt64.le_iff_toNat_le, c100] at c
      refine ⟨_, rfl, ?_, ?_⟩ <;> rw [UInt64.toNat_add] <;> omega
    · rw [if_neg (by simpa using c)]
      exact ⟨_, rfl, by omega, by omega⟩
  obtain ⟨nx, e, h1, h2⟩ := hT
  unfold hawthornlaw12_record
  rw [hk, Option.bind_some, hv, Option.bind_some, e, Option.bind_some]
  refine ⟨_, nx, rfl, rfl, ?_, ?_, h1, h2⟩
  · have := and_le a.Session 7 (by omega); exact Nat.lt_succ_of_le this
  · exact and_le a.Num 31 (by omega)
/-- What cache a law plays with. -/
theorem cfg_ok (x : api_Config) : ∃ k n B : Nat, hawthornlaw12_Config x = ⟨(k : Int), (n : Int), (B : Int), x.Seed⟩ ∧ (k = 1 ∨ k = 2) ∧ 1 ≤ n ∧ n ≤ 16 ∧ 1 ≤ B ∧ B ≤ 1024 := by
  obtain ⟨a, ha, ha2⟩ := iand_le x.Policy 1 (by decide)
  obtain ⟨b, hb, hb2⟩ := iand_le x.Entries 15 (by decide)
  obtain ⟨d, hd, hd2⟩ := iand_le x.Bytes 1023 (by decide)
  have ha : iand x.Policy 1 = (a : Int) := ha
  have hb : iand x.Entries 15 = (b : Int) := hb
  have hd : iand x.Bytes 1023 = (d : Int) := hd
  refine ⟨1 + a, 1 + b, 1 + d, ?_, by omega, by omega, by omega, by omega, by omega⟩
  unfold hawthornlaw12_Config
  rw [ha, hb, hd, i64s (1 + (a : Int)) (by omega) (by omega), i64s (1 + (b : Int)) (by omega) (by omega), i64s (1 + (d : Int)) (by omega) (by omega)]
  rw [Int.natCast_add, Int.natCast_add, Int.natCast_add]; rfl
theorem si_new {k n B : Nat} (hk : k = 1 ∨ k = 2) (seed : UInt64) (h1 : 1 ≤ n) (h2 : n ≤ 16) (h3 : 1 ≤ B) (h4 : B ≤ 1024) : ∃ s t p K, store_New ⟨(k : Int), (n : Int), (B : Int), seed⟩ = some (some s, 0) ∧ SI n B 0 ⟨(k : Int), (n : Int), (B : Int), seed⟩ s t p K ∧ s.sessions = [] ∧ s.now = 0 ∧ s.tally = ⟨0, 0⟩ ∧ t.m = [] := by
  obtain ⟨p, e, h⟩ := new_s k hk n B seed h1 (by omega) h3 (by omega)
  refine ⟨_, _, p, [], e, ⟨rfl, rfl, rfl, rfl, by omega, tb_new, h, by simp [msz], (fun k e he => by cases he), Nat.le_refl _, Nat.le_refl _⟩, rfl, rfl, rfl, rfl⟩
/-- What holds of the sessions of a law's cache. -/
def SP (ss : List (UInt64 × store_last)) : Prop := ∀ j l, mget ss j = some l → j.toNat < 8 ∧ l.num.toNat ≤ 31
theorem SP.put {ss : List (UInt64 × store_last)} (h : SP ss) {j n : UInt64} {r : api_Reply} (h1 : j.toNat < 8) (h2 : n.toNat ≤ 31) : SP (mput ss j ⟨n, r⟩) := by
  intro i l hl
  rw [mget_put] at hl
  split at hl
  · rename_i hi; cases hl; exact ⟨by rw [eq_of_beq hi]; exact h1, h2⟩
  · exact h i l hl
/-- A cache that was played with, at a tick. -/
def Pl (n B N : Nat) (c : api_Config) (s : store_Store) (now : UInt64) : Prop := (∃ t p K, SI n B N c s t p K) ∧ SP s.sessions ∧ s.now.toNat ≤ now.toNat
theorem pl_step {n B N : Nat} {c : api_Config} {s : store_Store} {now : UInt64} (h : Pl n B N c s now) (hN : N < 1000000) {y : api_Record} (h1 : y.Session.toNat < 8) (h2 : y.Num.toNat ≤ 31) (h3 : now.toNat ≤ y.Now.toNat) :
    ∃ r e s', store_Store_Apply s y = some (r, e, s') ∧ Pl n B (N + 1) c s' y.Now := by
  obtain ⟨⟨t, p, K, hS⟩, hP, hn⟩ := h
  obtain ⟨r, e, s', t', p', K', e1, hS', hc⟩ := hS.apply hN y
  refine ⟨r, e, s', e1, ⟨t', p', K', hS'⟩, ?_, ?_⟩
  · rcases hc with ⟨_, rfl, _⟩ | ⟨_, _, _, hx⟩
    · exact hP
    · rcases hx.cs with ⟨q, _⟩ | ⟨_, _, q, _⟩
      · rw [q]; exact hP
      · rw [q]; exact hP.put h1 h2
  · rcases hc with ⟨_, rfl, _⟩ | ⟨_, _, _, hx⟩
    · omega
    · rw [hx.now, mx_n]; omega
theorem played_l0 {n B : Nat} {c : api_Config} (l : List hawthornlaw12_Act) : ∀ (f i : Nat) (s : store_Store) (now : UInt64), f = l.length - i + 1 → i ≤ l.length → i ≤ 60 → Pl n B i c s now → now.toNat ≤ 100 * i →
    ∃ s' now', hawthornlaw12_played_l0 l f (some s) now (i : Int) = some (some s', now') ∧ Pl n B 60 c s' now' ∧ now'.toNat ≤ 6000 := by
  intro f
  induction f with
  | zero => intro i s now h; omega
  | succ f ih =>
    intro i s now hf hi hi2 h hn
    unfold hawthornlaw12_played_l0
    by_cases hc : i < l.length ∧ i < 60
    · obtain ⟨y, nx, e1, e2, h1, h2, h3, h4⟩ := rec_ok (store_Store_Seq s) now l[i] (by omega)
      obtain ⟨r, e, s', e3, h'⟩ := pl_step h (by omega) h1 h2 (by rw [e2]; exact h3)
      rw [e2] at h'
      rw [if_pos (by simp; omega), om_some, gN hc.1, Option.bind_some, e1, Option.bind_some, e3, Option.bind_some, i_a1 (by omega)]
      exact ih (i + 1) s' nx (by omega) (by omega) (by omega) h' (by omega)
    · rw [if_neg (by simp; omega)]
      obtain ⟨⟨t, p, K, hS⟩, hP, hn2⟩ := h
      exact ⟨s, now, rfl, ⟨⟨t, p, K, ⟨hS.st, hS.sp, hS.sc, hS.cb, hS.b2, hS.tb, hS.pr, hS.ms, hS.en, by have := hS.vn; omega, by have := hS.sn; omega⟩⟩, hP, hn2⟩, by omega⟩
theorem played_ok (x : api_Config) (l : List hawthornlaw12_Act) : ∃ n B c s now, hawthornlaw12_played x l = some (some s, now, true) ∧ Pl n B 60 c s now ∧ now.toNat ≤ 6000 := by
  obtain ⟨k, n, B, e, hk, h1, h2, h3, h4⟩ := cfg_ok x
  obtain ⟨s, t, p, K, e2, hS, hs, hn, _, _⟩ := si_new hk x.Seed h1 h2 h3 h4
  have hp : Pl n B 0 ⟨(k : Int), (n : Int), (B : Int), x.Seed⟩ s 0 := ⟨⟨t, p, K, hS⟩, (by rw [hs]; intro j l hl; cases hl), by rw [hn]; exact Nat.le_refl _⟩
  obtain ⟨s', now', e3, h', hn'⟩ := played_l0 l (((l.length : Int) - 0).toNat + 1) 0 s 0 (by omega) (by omega) (by omega) hp (by decide)
  refine ⟨n, B, _, s', now', ?_, h', hn'⟩
  unfold hawthornlaw12_played
  rw [e, e2, Option.bind_some]
  dsimp only
  rw [show hawthornlaw12_played_l0 l (((l.length : Int) - 0).toNat + 1) (some s) 0 0 = _ from e3, Option.bind_some, om_some]
  rfl
theorem SI.ent {n B N : Nat} {c : api_Config} {s : store_Store} {t : table_Table} {p : policy_Policy} {K : List Str} (h : SI n B N c s t p K) : store_Store_Entries s = some (listed t.m) := by
  obtain ⟨c', tt, pp, ss, sq, nw, vr, ty⟩ := s
  have e1 : tt = some t := h.st
  subst e1
  exact st_entries h.tb
theorem listed_pm {m : TM} (hu : Uk m) : (listed m).Perm (m.map (·.2)) := by
  have h1 : (listed m).Perm ((keys m).map fun k => (mget m k).getD ent0) := (ksort_perm (keys m)).map _
  have h2 : ((keys m).map fun k => (mget m k).getD ent0) = m.map (·.2) := by
    unfold keys
    rw [List.map_map]
    refine List.map_congr_left fun q hq => ?_
    show (mget m q.1).getD ent0 = q.2
    rw [mem_mget hu (k := q.1) (e := q.2) hq]; rfl
  rw [h2] at h1
  exact h1
end Go.Proofs.YtpanhdnglicknaaGreat.Pure
