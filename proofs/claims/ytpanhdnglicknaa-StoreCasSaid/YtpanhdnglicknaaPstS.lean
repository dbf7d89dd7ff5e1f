import Derived.Test.YtpanhdnglicknaaW2
import Derived.Test.YtpanhdnglicknaaPskZ
import Derived.Test.YtpanhdnglicknaaPskP
import Derived.Test.YtpanhdnglicknaaPringA
import Derived.Test.YtpanhdnglicknaaPringB
import Derived.Test.YtpanhdnglicknaaPringC
import Derived.Test.YtpanhdnglicknaaPringD
import Derived.Test.YtpanhdnglicknaaPringE
import Derived.Test.YtpanhdnglicknaaPringF
import Derived.Test.YtpanhdnglicknaaPtinyZ
import Derived.Test.YtpanhdnglicknaaPtinyB
import Derived.Test.YtpanhdnglicknaaPtinyC
import Derived.Test.YtpanhdnglicknaaPtinyY
import Derived.Test.YtpanhdnglicknaaParcA
import Derived.Test.YtpanhdnglicknaaParcB
import Derived.Test.YtpanhdnglicknaaPpolA
import Derived.Test.YtpanhdnglicknaaPstA
import Derived.Test.YtpanhdnglicknaaPstB
import Derived.Test.YtpanhdnglicknaaPstC
import Derived.Test.YtpanhdnglicknaaPstE
import Derived.Test.YtpanhdnglicknaaPstD
set_option linter.unusedVariables false
set_option linter.unusedSectionVars false
set_option linter.unusedSimpArgs false
set_option maxRecDepth 100000
set_option maxHeartbeats 8000000

namespace Go.Proofs.Ytpanhdnglicknaa.Pure
open Go Go.Proofs.Ytpanhdnglicknaa.Hw Go.Proofs.Ytpanhdnglicknaa

abbrev cfS : api_Config := ⟨((1 : Nat) : Int), ((4 : Nat) : Int), ((1000 : Nat) : Int), 0⟩
/-- The cache behind i sessions that laid a value. -/
def SesI (k : Str) (i : Nat) (s : store_Store) : Prop := ∃ t p K ss sq vr ty, s = ⟨cfS, some t, some p, ss, sq, 0, vr, ty⟩ ∧ TB K t ∧ PR 4 p K ∧ sq.toNat = i ∧ vr.toNat = min i 64 ∧
  t.m = (if i = 0 then [] else [(k, ⟨k, [118], vr, 0⟩)]) ∧ ss.length = min i 64 ∧ ∀ j, (mget ss j).isSome = true → j.toNat < min i 64
theorem ses_step (k : Str) (hk1 : k ≠ []) (hk2 : k.length ≤ 64) (i : Nat) (hi : i < 100) (s : store_Store) (h : SesI k i s) :
    ∃ s', store_Store_Apply s ⟨toW ((i + 1 : Nat) : Int), 0, toW (i : Int), 1, ⟨2, k, [118], 0, 0⟩⟩ = some ((if i < 64 then (⟨0, [], toW ((i + 1 : Nat) : Int)⟩ : api_Reply) else ⟨3, [], 0⟩), 0, s') ∧ SesI k (i + 1) s' := by
  obtain ⟨t, p, K, ss, sq, vr, ty, rfl, ht, hp, hsq, hvr, hm, hl, hs⟩ := h
  have w1 := toW_n (j := i + 1) (by omega)
  have w0 := toW_n (j := i) (by omega)
  have u1 : (1 : UInt64).toNat = 1 := rfl
  have u0 : (0 : UInt64).toNat = 0 := rfl
  have hno : ∀ q, ¬ endsAt t.m (mx 0 0) q := by
    rintro q ⟨e, he, h1, _⟩
    have := mget_mem he
    rw [hm] at this
    split at this
    · cases this
    · simp at this; rw [this.2] at h1; exact h1 rfl
  have hseq : ((toW ((i + 1 : Nat) : Int) == 0) || ((toW ((i + 1 : Nat) : Int) - 1) != sq)) = false := by
    have e1 : toW ((i + 1 : Nat) : Int) ≠ 0 := fun z => by have := congrArg UInt64.toNat z; rw [w1, u0] at this; omega
    have e2 : toW ((i + 1 : Nat) : Int) - 1 = sq := by
      apply UInt64.toNat_inj.1
      rw [UInt64.toNat_sub_of_le _ _ (by rw [UInt64.le_iff_toNat_le, u1, w1]; omega), w1, u1, hsq]; omega
    rw [Bool.or_eq_false_iff]
    exact ⟨by rw [beq_eq_false_iff_ne]; exact e1, by rw [bne_eq_false_iff_eq]; exact e2⟩
  obtain ⟨t1, p1, K1, e1, ht1, hp1, _, _, _, _, _, hsame⟩ := st_apply (c := cfS) (ss := ss) (sq := sq) (nw := 0) (vr := vr) (ty := ty) ht hp (x := ⟨toW ((i + 1 : Nat) : Int), 0, toW (i : Int), 1, ⟨2, k, [118], 0, 0⟩⟩) (chk_put hk1 hk2 (by simp) (by rw [u0]; omega)) hseq
  obtain ⟨z1, rfl⟩ := hsame hno
  have n0 : mx 0 0 = 0 := rfl
  dsimp only at e1
  rw [n0] at e1
  have hnone : mget ss (toW (i : Int)) = none := by
    cases hg : mget ss (toW (i : Int)) with
    | none => rfl
    | some l => have := hs (toW (i : Int)) (by rw [hg]; rfl); omega
  have hsq2 : (sq + 1).toNat = i + 1 := by rw [UInt64.toNat_add, hsq, u1]; omega
  by_cases c : i < 64
  · have r1 := rest_do (s := ⟨cfS, some t1, some p1, ss, sq + 1, 0, vr, ty⟩) (x := ⟨toW ((i + 1 : Nat) : Int), 0, toW (i : Int), 1, ⟨2, k, [118], 0, 0⟩⟩) (by dsimp only; decide) (.inl ⟨hnone, by dsimp only; omega⟩)
    have d1 := do_put (c := cfS) (t := t1) (p := p1) (ss := ss) (sq := sq + 1) (nw := 0) (vr := vr) (ty := ty) ⟨2, k, [118], 0, 0⟩ (by dsimp only; decide)
    rcases st_put (n := 4) (B := 1000) (c := cfS) (ss := ss) (sq := sq + 1) (nw := 0) (vr := vr) (ty := ty) (o := ⟨2, k, [118], 0, 0⟩) rfl (by omega) ht1 hp1 hk2 (by simp) with ⟨q, _⟩ | ⟨_, t2, p2, K2, e2, ht2, hp2, _, _, hfit⟩
    · simp at q; omega
    have hroom : k ∈ K1 ∨ K1.length < 4 := by
      right
      rw [← ht1.len, z1, hm]; split <;> simp
    have hsz : mput (mdel t1.m k) k (⟨k, [118], vr + 1, endv 0 0⟩ : api_Entry) = [(k, ⟨k, [118], vr + 1, 0⟩)] := by
      have hev : endv 0 0 = 0 := by decide
      rw [hev, z1, hm]
      split
      · rfl
      · simp [mdel, mput]
    obtain ⟨f1, f2⟩ := hfit hroom (by dsimp only; rw [hsz]; simp [msz, esz]; omega)
    dsimp only at f1 f2
    rw [hsz] at f1
    dsimp only at r1
    have hvr2 : (vr + 1).toNat = i + 1 := by rw [UInt64.toNat_add, hvr, u1]; omega
    have hv1 : vr + 1 = toW ((i + 1 : Nat) : Int) := by apply UInt64.toNat_inj.1; rw [hvr2, w1]
    rw [e1, r1, d1, e2, Option.bind_some, if_pos c, ← hv1]
    refine ⟨_, rfl, t2, p2, K2, _, _, _, _, rfl, ht2, hp2, hsq2, by rw [hvr2]; omega, ?_, ?_, fun j hj => ?_⟩
    · rw [f1, if_neg (by omega)]
    · rw [mput_len hnone]; omega
    · rw [mget_put] at hj
      by_cases hji : (j == toW (i : Int)) = true
      · rw [eq_of_beq hji, w0]; omega
      · rw [if_neg hji] at hj; have := hs j hj; omega
  · have er : aRest ⟨cfS, some t1, some p1, ss, sq + 1, 0, vr, ty⟩ ⟨toW ((i + 1 : Nat) : Int), 0, toW (i : Int), 1, ⟨2, k, [118], 0, 0⟩⟩ = some ((⟨3, [], 0⟩ : api_Reply), 0, ⟨cfS, some t1, some p1, ss, sq + 1, 0, vr, ty⟩) := by
      unfold aRest
      dsimp only
      rw [hnone, if_neg (by decide), if_neg (by simp), if_neg (by simp), if_pos (by simp; omega)]
    rw [e1, er, if_neg c]
    refine ⟨_, rfl, t1, p1, K1, ss, _, vr, ty, rfl, ht1, hp1, hsq2, by omega, ?_, by omega, fun j hj => by have := hs j hj; omega⟩
    rw [z1, hm, if_neg (by omega), if_neg (by omega)]
theorem ses_loop (a : Int) (k : Str) (hk1 : k ≠ []) (hk2 : k.length ≤ 64) (M : Nat) (hM : i64 (62 + iand a 3) = (M : Int)) (hM2 : M ≤ 70) : ∀ (f i : Nat) (s : store_Store), f = M - i + 1 → i ≤ M → SesI k i s →
    ∃ s', hawthornlaw12_StoreSessions_l0 a k f (some s) (i : Int) = some (.inl (some s')) ∧ SesI k M s' := by
  intro f
  induction f with
  | zero => intro i s h; omega
  | succ f ih =>
    intro i s hf hi h
    unfold hawthornlaw12_StoreSessions_l0
    rw [hM]
    by_cases c : i < M
    · obtain ⟨s', e, h'⟩ := ses_step k hk1 hk2 i (by omega) s h
      rw [if_pos (by simpa using c), om_some, i_a1 (by omega), e, Option.bind_some]
      have hcnd : ((((0 : Int) != 0) || (((if i < 64 then (⟨0, [], toW ((i + 1 : Nat) : Int)⟩ : api_Reply) else ⟨3, [], 0⟩).E == 0) != (decide ((i : Int) < 64)))) || (((if i < 64 then (⟨0, [], toW ((i + 1 : Nat) : Int)⟩ : api_Reply) else ⟨3, [], 0⟩).E != 0) && ((if i < 64 then (⟨0, [], toW ((i + 1 : Nat) : Int)⟩ : api_Reply) else ⟨3, [], 0⟩).E != 3))) = false := by
        by_cases c2 : i < 64
        · have : (i : Int) < 64 := by omega
          simp [c2, this]
        · have : ¬ (i : Int) < 64 := by omega
          simp [c2, this]
      dsimp only
      rw [hcnd, if_neg (by decide)]
      exact ih (i + 1) s' (by omega) (by omega) h'
    · rw [if_neg (by simpa using c)]
      have : i = M := by omega
      subst this
      exact ⟨s, rfl, h⟩
theorem StoreSessions (a : Int) (k : Str) {p q : Prop} (_ : p) (_ : q) : hawthornlaw12_StoreSessions a k = some true := by
  unfold hawthornlaw12_StoreSessions
  by_cases c : k.length < 1 ∨ 64 < k.length
  · rw [if_pos (by simp; omega), awake12]; rfl
  · rw [if_neg (by simp; omega)]
    obtain ⟨j, hj, hj2⟩ := iand_le a 3 (by decide)
    have hj : iand a 3 = (j : Int) := hj
    have hM : i64 (62 + iand a 3) = ((62 + j : Nat) : Int) := by rw [hj, i64s _ (by omega) (by omega)]; omega
    obtain ⟨p0, e0, h0⟩ := new_s 1 (.inl rfl) 4 1000 0 (by omega) (by omega) (by omega) (by omega)
    have hk1 : k ≠ [] := by rintro rfl; simp at c
    obtain ⟨s', el, t, p, K, ss, sq, vr, ty, rfl, ht, hp, hsq, hvr, hm, hl, hs⟩ := ses_loop a k hk1 (by omega) (62 + j) hM (by omega) (((((62 + j : Nat) : Int)) - 0).toNat + 1) 0 ⟨cfS, some ⟨[], 0⟩, some p0, [], 0, 0, 0, ⟨0, 0⟩⟩ (by omega) (by omega)
      ⟨_, p0, [], [], 0, 0, _, rfl, tb_new, h0, rfl, rfl, rfl, rfl, fun j hj => by cases hj⟩
    rw [show store_New (⟨1, 4, 1000, 0⟩ : api_Config) = _ from e0, Option.bind_some, awake12, Option.bind_some, if_neg (by simp)]
    dsimp only
    rw [hM, show hawthornlaw12_StoreSessions_l0 a k (((((62 + j : Nat) : Int)) - 0).toNat + 1) (some ⟨cfS, some ⟨[], 0⟩, some p0, [], 0, 0, 0, ⟨0, 0⟩⟩) 0 = _ from el, Option.bind_some]
    dsimp only
    rw [om_some, st_entries ht, Option.bind_some]
    have hli : listed t.m = [⟨k, [118], vr, 0⟩] := by
      rw [hm, if_neg (by omega)]
      show [(if (k == k) = true then some (⟨k, [118], vr, 0⟩ : api_Entry) else none).getD ent0] = _
      rw [if_pos (by simp)]; rfl
    rw [hli, if_pos (by rfl), show gi [(⟨k, [118], vr, 0⟩ : api_Entry)] 0 = some ⟨k, [118], vr, 0⟩ from rfl, Option.bind_some]
    have hw : ∀ x : Nat, x < 1000 → vr.toNat = x → vr = toW (x : Int) := fun x hx hv => by apply UInt64.toNat_inj.1; rw [toW_n (by omega)]; exact hv
    by_cases c2 : 64 < 62 + j
    · rw [if_pos (show (64 : Int) < ((62 + j : Nat) : Int) by omega)]
      rw [hw 64 (by omega) (by omega)]
      simp
    · rw [if_neg (show ¬ (64 : Int) < ((62 + j : Nat) : Int) by omega)]
      rw [hw (62 + j) (by omega) (by omega)]
      simp
end Go.Proofs.Ytpanhdnglicknaa.Pure
