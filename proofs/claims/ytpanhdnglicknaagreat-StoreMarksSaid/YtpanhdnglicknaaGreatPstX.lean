import Derived.Test.YtpanhdnglicknaaGreatW3
import Derived.Test.YtpanhdnglicknaaGreatPskZ
import Derived.Test.YtpanhdnglicknaaGreatPskP
import Derived.Test.YtpanhdnglicknaaGreatPringA
import Derived.Test.YtpanhdnglicknaaGreatPringB
import Derived.Test.YtpanhdnglicknaaGreatPringC
import Derived.Test.YtpanhdnglicknaaGreatPringD
import Derived.Test.YtpanhdnglicknaaGreatPringE
import Derived.Test.YtpanhdnglicknaaGreatPringF
import Derived.Test.YtpanhdnglicknaaGreatPtinyZ
import Derived.Test.YtpanhdnglicknaaGreatPtinyB
import Derived.Test.YtpanhdnglicknaaGreatPtinyC
import Derived.Test.YtpanhdnglicknaaGreatPtinyY
import Derived.Test.YtpanhdnglicknaaGreatParcA
import Derived.Test.YtpanhdnglicknaaGreatParcB
import Derived.Test.YtpanhdnglicknaaGreatPpolA
import Derived.Test.YtpanhdnglicknaaGreatPstA
import Derived.Test.YtpanhdnglicknaaGreatPstB
import Derived.Test.YtpanhdnglicknaaGreatPstC
import Derived.Test.YtpanhdnglicknaaGreatPstD
import Derived.Test.YtpanhdnglicknaaGreatPstG
import Derived.Test.YtpanhdnglicknaaGreatPstH
import Derived.Test.YtpanhdnglicknaaGreatPstO
set_option linter.unusedVariables false
set_option linter.unusedSectionVars false
set_option linter.unusedSimpArgs false
set_option maxRecDepth 100000
set_option maxHeartbeats 8000000

namespace Go.Proofs.YtpanhdnglicknaaGreat.Pure
open Go Go.Proofs.YtpanhdnglicknaaGreat.Hw Go.Proofs.YtpanhdnglicknaaGreat

theorem listed_mem {m : TM} (hu : Uk m) {e : api_Entry} (h : e ∈ listed m) : ∃ k, mget m k = some e := by
  have := (listed_pm hu).subset h
  obtain ⟨q, hq, rfl⟩ := List.mem_map.1 this
  exact ⟨q.1, mem_mget hu hq⟩
theorem listed_sum {m : TM} (hu : Uk m) : ((listed m).map esz).sum = msz m := by
  have := ((listed_pm hu).map esz).sum_nat
  rw [this, List.map_map]; rfl
theorem bnd_l1 (rr : api_Reply) (er : Int) (s : store_Store) (L : List api_Entry) (hL : L.length ≤ 1001) (hen : ∀ e ∈ L, esz e ≤ 4160 ∧ 1 ≤ e.Version.toNat ∧ (e.End.toNat = 0 ∨ s.now.toNat < e.End.toNat)) : ∀ (f i : Nat) (b : Nat), f = L.length - i + 1 → i ≤ L.length → b ≤ i * 4160 →
    hawthornlaw12_StoreBounds_l1 (rr, er, s) L f (b : Int) (i : Int) = some (.inl ((b + ((L.drop i).map esz).sum : Nat) : Int)) := by
  intro f
  induction f with
  | zero => intro i b h; omega
  | succ f ih =>
    intro i b hf hi hb
    unfold hawthornlaw12_StoreBounds_l1
    by_cases c : i < L.length
    · obtain ⟨h1, h2, h3⟩ := hen L[i] (List.getElem_mem c)
      have e1 : i64 ((L[i].Key.length : Int) + (L[i].Value.length : Int)) = (esz L[i] : Int) := by
        have : esz L[i] = L[i].Key.length + L[i].Value.length := rfl
        rw [i64s _ (by omega) (by omega)]; omega
      have hib : i * 4160 ≤ 1001 * 4160 := Nat.mul_le_mul_right _ (by omega)
      have e2 : i64 ((b : Int) + (esz L[i] : Int)) = ((b + esz L[i] : Nat) : Int) := by rw [i64s _ (by omega) (by omega)]; omega
      have c0 : (0 : UInt64).toNat = 0 := rfl
      have c1 : (1 : UInt64).toNat = 1 := rfl
      have hv : decide (L[i].Version < 1) = false := by simp only [decide_eq_false_iff_not, UInt64.lt_iff_toNat_lt, c1]; omega
      have hp : (if (L[i].End != 0) = true then some (decide (L[i].End ≤ (store_Store_Now s)) || decide (L[i].Version < 1)) else some (decide (L[i].Version < 1))) = some false := by
        rw [hv]
        by_cases q : L[i].End = 0
        · rw [if_neg (by simp [q])]
        · rw [if_pos (by simpa using q)]
          have : L[i].End.toNat ≠ 0 := fun z => q (UInt64.toNat_inj.1 (by rw [z, c0]))
          have hd : decide (L[i].End ≤ (store_Store_Now s)) = false := by
            unfold store_Store_Now
            simp only [decide_eq_false_iff_not, UInt64.le_iff_toNat_le]; omega
          rw [hd]; rfl
      rw [if_pos (by simpa using c), gN c, Option.bind_some, hp, Option.bind_some, if_neg (by decide), e1, e2, i_a1 (by omega), ih (i + 1) (b + esz L[i]) (by omega) (by omega) (by rw [Nat.succ_mul]; omega), drop_at' c, List.map_cons, List.sum_cons, Nat.add_assoc]
    · rw [if_neg (by simpa using c), List.drop_eq_nil_of_le (by omega)]; simp
theorem bnd_l0 (x : api_Config) (n B : Nat) (c : api_Config) (h1 : (hawthornlaw12_Config x).Entries = (n : Int)) (h2 : (hawthornlaw12_Config x).Bytes = (B : Int)) (l : List hawthornlaw12_Act) : ∀ (f i : Nat) (s : store_Store) (now : UInt64), f = l.length - i + 1 → i ≤ l.length → i ≤ 80 → Pl n B i c s now → now.toNat ≤ 100 * i →
    hawthornlaw12_StoreBounds_l0 x l f (some s) now (i : Int) = some (.inl ()) := by
  intro f
  induction f with
  | zero => intro i s now h; omega
  | succ f ih =>
    intro i s now hf hi hi2 h hn
    unfold hawthornlaw12_StoreBounds_l0
    by_cases hc : i < l.length ∧ i < 80
    · obtain ⟨y, nx, e1, e2, q1, q2, q3, q4⟩ := rec_ok (store_Store_Seq s) now l[i] (by omega)
      obtain ⟨r, e, s', e3, h'⟩ := pl_step h (by omega) q1 q2 (by rw [e2]; exact q3)
      rw [e2] at h'
      have hh := h'
      obtain ⟨⟨t, p, K, hS⟩, hP, hn2⟩ := h'
      have hl := hS.tb.len
      have hK := hS.pr.le
      have hK2 := hS.tb.le
      have hll := listed_len t.m
      have hsum := listed_sum hS.tb.uk
      have hms := hS.ms
      have hen : ∀ e ∈ listed t.m, esz e ≤ 4160 ∧ 1 ≤ e.Version.toNat ∧ (e.End.toNat = 0 ∨ s'.now.toNat < e.End.toNat) := fun e he => by
        obtain ⟨k, hk⟩ := listed_mem hS.tb.uk he
        exact ⟨hS.tb.es _ (mget_mem hk), hS.en k e hk⟩
      have L1 := bnd_l1 r e s' (listed t.m) (by omega) hen ((((listed t.m).length : Int) - 0).toNat + 1) 0 0 (by omega) (by omega) (by omega)
      rw [List.drop_zero, hsum, Nat.zero_add] at L1
      rw [if_pos (by simp; omega), om_some, gN hc.1, Option.bind_some, e1, Option.bind_some, e3, Option.bind_some]
      dsimp only
      rw [hS.ent, Option.bind_some, show hawthornlaw12_StoreBounds_l1 (r, e, s') (listed t.m) ((((listed t.m).length : Int) - 0).toNat + 1) 0 0 = _ from L1, Option.bind_some]
      dsimp only
      have d1 : decide ((n : Int) < ((listed t.m).length : Int)) = false := by simp; omega
      have d2 : decide ((B : Int) < (msz t.m : Int)) = false := by simp; omega
      rw [h1, h2, d1, d2, if_neg (by decide), Option.bind_some]
      dsimp only
      rw [i_a1 (by omega)]
      exact ih (i + 1) s' nx (by omega) (by omega) (by omega) hh (by omega)
    · rw [if_neg (by simp; omega)]
theorem StoreBounds (x : api_Config) (l : List hawthornlaw12_Act) {p1 p2 p3 : Prop} (_ : p1) (_ : p2) (_ : p3) : hawthornlaw12_StoreBounds x l = some true := by
  obtain ⟨k, n, B, e, hk, h1, h2, h3, h4⟩ := cfg_ok x
  obtain ⟨s, t, p, K, e2, hS, hs, hn, _, _⟩ := si_new hk x.Seed h1 h2 h3 h4
  have hp : Pl n B 0 ⟨(k : Int), (n : Int), (B : Int), x.Seed⟩ s 0 := ⟨⟨t, p, K, hS⟩, (by rw [hs]; intro j l hl; cases hl), by rw [hn]; exact Nat.le_refl _⟩
  have L := bnd_l0 x n B _ (by rw [e]) (by rw [e]) l (((l.length : Int) - 0).toNat + 1) 0 s 0 (by omega) (by omega) (by omega) hp (by decide)
  unfold hawthornlaw12_StoreBounds
  rw [e, e2, Option.bind_some, awake12, Option.bind_some, if_neg (by simp)]
  dsimp only
  rw [show hawthornlaw12_StoreBounds_l0 x l (((l.length : Int) - 0).toNat + 1) (some s) 0 0 = _ from L, Option.bind_some]
end Go.Proofs.YtpanhdnglicknaaGreat.Pure
