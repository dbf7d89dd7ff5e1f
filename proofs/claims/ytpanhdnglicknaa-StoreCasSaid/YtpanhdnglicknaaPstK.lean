import Derived.Test.YtpanhdnglicknaaW2
import Derived.Test.YtpanhdnglicknaaPskZ
import Derived.Test.YtpanhdnglicknaaPskP
import Derived.Test.YtpanhdnglicknaaPringA
import Derived.Test.YtpanhdnglicknaaPringB
import Derived.Test.YtpanhdnglicknaaPringC
import Derived.Test.YtpanhdnglicknaaPringD
import Derived.Test.YtpanhdnglicknaaPringE
import Derived.Test.YtpanhdnglicknaaPringF
import Derived.Test.YtpanhdnglicknaaPtinyZ
import Derived.Test.YtpanhdnglicknaaPtinyB
import Derived.Test.YtpanhdnglicknaaPtinyC
import Derived.Test.YtpanhdnglicknaaPtinyY
import Derived.Test.YtpanhdnglicknaaParcA
import Derived.Test.YtpanhdnglicknaaParcB
import Derived.Test.YtpanhdnglicknaaPpolA
import Derived.Test.YtpanhdnglicknaaPstA
import Derived.Test.YtpanhdnglicknaaPstB
import Derived.Test.YtpanhdnglicknaaPstC
import Derived.Test.YtpanhdnglicknaaPstE
import Derived.Test.YtpanhdnglicknaaPstD
import Derived.Test.YtpanhdnglicknaaPstS
set_option linter.unusedVariables false
set_option linter.unusedSectionVars false
set_option linter.unusedSimpArgs false
set_option maxRecDepth 100000
set_option maxHeartbeats 8000000

namespace Go.Proofs.Ytpanhdnglicknaa.Pure
open Go Go.Proofs.Ytpanhdnglicknaa.Hw Go.Proofs.Ytpanhdnglicknaa

abbrev kK : Str := [107]
/-- The cache of one entry, behind i operations of the session 1. -/
def OneI (i : UInt64) (v : Str) (vr : UInt64) (s : store_Store) : Prop := ∃ t p K ss ty l, s = ⟨cfS, some t, some p, ss, i, 0, vr, ty⟩ ∧ TB K t ∧ PR 4 p K ∧ t.m = [(kK, ⟨kK, v, vr, 0⟩)] ∧ mget ss 1 = some l ∧ l.num = i
theorem one_ends {v : Str} {vr : UInt64} {t : table_Table} (hm : t.m = [(kK, ⟨kK, v, vr, 0⟩)]) (q : Str) : ¬ endsAt t.m (mx 0 0) q := by
  rintro ⟨e, he, h1, _⟩
  have := mget_mem he
  rw [hm] at this
  simp at this; rw [this.2] at h1; exact h1 rfl
theorem put_one {v w : Str} {vr sq : UInt64} {t : table_Table} {p : policy_Policy} {K : List Str} {ss : List (UInt64 × store_last)} {ty : api_Tally} (ht : TB K t) (hp : PR 4 p K) (hm : t.m = [] ∨ t.m = [(kK, ⟨kK, v, vr, 0⟩)]) (hw : w.length ≤ 100) (kd : Int) (n : UInt64) :
    ∃ t2 p2 K2, store_Store_put ⟨cfS, some t, some p, ss, sq, 0, vr, ty⟩ ⟨kd, kK, w, 0, n⟩ = some ((⟨0, [], vr + 1⟩ : api_Reply), ⟨cfS, some t2, some p2, ss, sq, 0, vr + 1, ty⟩) ∧ TB K2 t2 ∧ PR 4 p2 K2 ∧ t2.m = [(kK, ⟨kK, w, vr + 1, 0⟩)] := by
  rcases st_put (n := 4) (B := 1000) (c := cfS) (ss := ss) (sq := sq) (nw := 0) (vr := vr) (ty := ty) (o := ⟨kd, kK, w, 0, n⟩) rfl (by omega) ht hp (by simp) (by dsimp only; omega) with ⟨q, _⟩ | ⟨_, t2, p2, K2, e2, ht2, hp2, _, _, hfit⟩
  · simp at q; omega
  have hroom : kK ∈ K ∨ K.length < 4 := by
    right
    rw [← ht.len]; rcases hm with hm | hm <;> rw [hm] <;> simp
  have hsz : mput (mdel t.m kK) kK (⟨kK, w, vr + 1, endv 0 0⟩ : api_Entry) = [(kK, ⟨kK, w, vr + 1, 0⟩)] := by
    have hev : endv 0 0 = 0 := by decide
    rw [hev]
    rcases hm with hm | hm <;> rw [hm] <;> simp [mdel, mput]
  obtain ⟨f1, _⟩ := hfit hroom (by dsimp only; rw [hsz]; simp [msz, esz]; omega)
  dsimp only at f1
  rw [hsz] at f1
  exact ⟨t2, p2, K2, e2, ht2, hp2, f1⟩
theorem chk_cas {v : Str} {n : UInt64} (h3 : v.length ≤ 4096) (h4 : 1 ≤ n.toNat) : op_Check ⟨4, kK, v, 0, n⟩ = true := by
  have c : (1073741824 : UInt64).toNat = 1073741824 := rfl
  have c1 : (1 : UInt64).toNat = 1 := rfl
  unfold op_Check
  dsimp only
  rw [if_neg (by simp; omega), lt_eq]
  have : decide ((1 : UInt64) ≤ n) = true := by simp only [decide_eq_true_eq, UInt64.le_iff_toNat_le]; omega
  simp [this]
theorem one_cas {i vr n : UInt64} {v w : Str} {s : store_Store} (h : OneI i v vr s) (hi : i.toNat < 100) (hw : w.length ≤ 100) (hn : 1 ≤ n.toNat) :
    ∃ s', store_Store_Apply s ⟨i + 1, 0, 1, i + 1, ⟨4, kK, w, 0, n⟩⟩ = some ((if vr = n then (⟨0, [], vr + 1⟩ : api_Reply) else ⟨121, [], vr⟩), 0, s') ∧ if vr = n then OneI (i + 1) w (vr + 1) s' else OneI (i + 1) v vr s' := by
  obtain ⟨t, p, K, ss, ty, l, rfl, ht, hp, hm, hl, hln⟩ := h
  have c1 : (1 : UInt64).toNat = 1 := rfl
  have c0 : (0 : UInt64).toNat = 0 := rfl
  have hi1 : (i + 1).toNat = i.toNat + 1 := by rw [UInt64.toNat_add, c1]; omega
  have hseq : (((i + 1) == 0) || (((i + 1) - 1) != i)) = false := by
    have e1 : i + 1 ≠ 0 := fun z => by have := congrArg UInt64.toNat z; rw [hi1, c0] at this; omega
    have e2 : i + 1 - 1 = i := by
      apply UInt64.toNat_inj.1
      rw [UInt64.toNat_sub_of_le _ _ (by rw [UInt64.le_iff_toNat_le, c1, hi1]; omega), hi1, c1]; omega
    simp [e1, e2]
  obtain ⟨t1, p1, K1, e1, ht1, hp1, _, _, _, _, _, hsame⟩ := st_apply (c := cfS) (ss := ss) (sq := i) (nw := 0) (vr := vr) (ty := ty) ht hp (x := ⟨i + 1, 0, 1, i + 1, ⟨4, kK, w, 0, n⟩⟩) (chk_cas (by omega) hn) hseq
  obtain ⟨z1, rfl⟩ := hsame (one_ends hm)
  have n0 : mx 0 0 = 0 := rfl
  dsimp only at e1
  rw [n0] at e1
  rw [← z1] at hm
  have r1 := rest_do (s := ⟨cfS, some t1, some p1, ss, i + 1, 0, vr, ty⟩) (x := ⟨i + 1, 0, 1, i + 1, ⟨4, kK, w, 0, n⟩⟩) (by dsimp only; decide) (.inr ⟨l, hl, by rw [hln]; dsimp only; rw [UInt64.lt_iff_toNat_lt, hi1]; omega⟩)
  have hg : mget t1.m kK = some ⟨kK, v, vr, 0⟩ := by rw [hm]; rfl
  have d1 := do_cas (c := cfS) (t := t1) (p := p1) (ss := ss) (sq := i + 1) (nw := 0) (vr := vr) (ty := ty) ⟨4, kK, w, 0, n⟩ rfl hg
  dsimp only at r1 d1
  rw [e1, r1, d1]
  by_cases c : vr = n
  · rw [if_pos c, if_pos c]
    obtain ⟨t2, p2, K2, e2, ht2, hp2, f1⟩ := put_one (ss := ss) (sq := i + 1) (ty := ty) ht1 hp1 (.inr hm) hw 4 n
    rw [e2, Option.bind_some]
    refine ⟨_, rfl, ?_⟩
    rw [if_pos c]
    exact ⟨t2, p2, K2, _, ty, _, rfl, ht2, hp2, f1, by rw [mget_put, if_pos (by simp)], rfl⟩
  · rw [if_neg c, if_neg c, Option.bind_some]
    refine ⟨_, rfl, ?_⟩
    rw [if_neg c]
    exact ⟨t1, p1, K1, _, ty, _, rfl, ht1, hp1, hm, by rw [mget_put, if_pos (by simp)], rfl⟩
theorem one_get {i vr : UInt64} {v : Str} {s : store_Store} (h : OneI i v vr s) (hi : i.toNat < 100) : ∃ s', store_Store_Apply s ⟨i + 1, 0, 1, i + 1, ⟨1, kK, [], 0, 0⟩⟩ = some (⟨0, v, vr⟩, 0, s') := by
  obtain ⟨t, p, K, ss, ty, l, rfl, ht, hp, hm, hl, hln⟩ := h
  have c1 : (1 : UInt64).toNat = 1 := rfl
  have c0 : (0 : UInt64).toNat = 0 := rfl
  have hi1 : (i + 1).toNat = i.toNat + 1 := by rw [UInt64.toNat_add, c1]; omega
  have hseq : (((i + 1) == 0) || (((i + 1) - 1) != i)) = false := by
    have e1 : i + 1 ≠ 0 := fun z => by have := congrArg UInt64.toNat z; rw [hi1, c0] at this; omega
    have e2 : i + 1 - 1 = i := by
      apply UInt64.toNat_inj.1
      rw [UInt64.toNat_sub_of_le _ _ (by rw [UInt64.le_iff_toNat_le, c1, hi1]; omega), hi1, c1]; omega
    simp [e1, e2]
  obtain ⟨t1, p1, K1, e1, ht1, hp1, _, _, _, _, _, hsame⟩ := st_apply (c := cfS) (ss := ss) (sq := i) (nw := 0) (vr := vr) (ty := ty) ht hp (x := ⟨i + 1, 0, 1, i + 1, ⟨1, kK, [], 0, 0⟩⟩) (chk_get (by simp) (by simp)) hseq
  obtain ⟨z1, rfl⟩ := hsame (one_ends hm)
  have n0 : mx 0 0 = 0 := rfl
  dsimp only at e1
  rw [n0] at e1
  rw [← z1] at hm
  have r1 := rest_do (s := ⟨cfS, some t1, some p1, ss, i + 1, 0, vr, ty⟩) (x := ⟨i + 1, 0, 1, i + 1, ⟨1, kK, [], 0, 0⟩⟩) (by dsimp only; decide) (.inr ⟨l, hl, by rw [hln]; dsimp only; rw [UInt64.lt_iff_toNat_lt, hi1]; omega⟩)
  have hg : mget t1.m kK = some ⟨kK, v, vr, 0⟩ := by rw [hm]; rfl
  obtain ⟨p2, e2, _⟩ := do_hit (c := cfS) (ss := ss) (sq := i + 1) (nw := 0) (vr := vr) (ty := ty) ht1 hp1 (o := ⟨1, kK, [], 0, 0⟩) rfl hg
  dsimp only at r1 e2
  rw [e1, r1, e2, Option.bind_some]
  exact ⟨_, rfl⟩
theorem one_first (v : Str) (hv : v.length ≤ 100) {p : policy_Policy} (hp : PR 4 p []) : ∃ s', store_Store_Apply ⟨cfS, some ⟨[], 0⟩, some p, [], 0, 0, 0, ⟨0, 0⟩⟩ ⟨0 + 1, 0, 1, 0 + 1, ⟨2, kK, v, 0, 0⟩⟩ = some (⟨0, [], 0 + 1⟩, 0, s') ∧ OneI (0 + 1) v (0 + 1) s' := by
  obtain ⟨t1, p1, K1, e1, ht1, hp1, _, _, _, _, _, hsame⟩ := st_apply (c := cfS) (ss := []) (sq := 0) (nw := 0) (vr := 0) (ty := ⟨0, 0⟩) tb_new hp (x := ⟨0 + 1, 0, 1, 0 + 1, ⟨2, kK, v, 0, 0⟩⟩) (chk_put (by simp) (by simp) (by omega) (by decide)) (by dsimp only; decide)
  obtain ⟨z1, rfl⟩ := hsame (by rintro k ⟨e, he, _⟩; cases he)
  have n0 : mx 0 0 = 0 := rfl
  dsimp only at e1
  rw [n0] at e1
  have r1 := rest_do (s := ⟨cfS, some t1, some p1, [], 0 + 1, 0, 0, ⟨0, 0⟩⟩) (x := ⟨0 + 1, 0, 1, 0 + 1, ⟨2, kK, v, 0, 0⟩⟩) (by dsimp only; decide) (.inl ⟨rfl, by simp⟩)
  have d1 := do_put (c := cfS) (t := t1) (p := p1) (ss := []) (sq := 0 + 1) (nw := 0) (vr := 0) (ty := ⟨0, 0⟩) ⟨2, kK, v, 0, 0⟩ (by dsimp only; decide)
  obtain ⟨t2, p2, K2, e2, ht2, hp2, f1⟩ := put_one (v := v) (ss := []) (sq := 0 + 1) (vr := 0) (ty := ⟨0, 0⟩) ht1 hp1 (.inl z1) hv 2 0
  dsimp only at r1
  rw [e1, r1, d1, e2, Option.bind_some]
  exact ⟨_, rfl, t2, p2, K2, _, _, _, rfl, ht2, hp2, f1, rfl, rfl⟩
theorem and3 (a : UInt64) : (1 + (a &&& 3)).toNat = 1 + (a.toNat &&& 3) ∧ a.toNat &&& 3 ≤ 3 := by
  have c1 : (1 : UInt64).toNat = 1 := rfl
  have c3 : (3 : UInt64).toNat = 3 := rfl
  have h : a.toNat &&& 3 ≤ 3 := Nat.and_le_right
  refine ⟨?_, h⟩
  rw [UInt64.toNat_add, UInt64.toNat_and, c1, c3]; omega
theorem StoreCas (v w : Str) (a : UInt64) {p q : Prop} (_ : p) (_ : q) : hawthornlaw12_StoreCas v w a = some true := by
  unfold hawthornlaw12_StoreCas
  by_cases c : 100 < v.length ∨ 100 < w.length
  · rw [if_pos (by simp; omega), awake12]; rfl
  · rw [if_neg (by simp; omega)]
    obtain ⟨h3, h4⟩ := and3 a
    obtain ⟨p0, e0, h0⟩ := new_s 1 (.inl rfl) 4 1000 0 (by omega) (by omega) (by omega) (by omega)
    rw [show store_New (⟨1, 4, 1000, 0⟩ : api_Config) = _ from e0, Option.bind_some]
    obtain ⟨s1, e1, h1⟩ := one_first v (by omega) h0
    obtain ⟨s2, e2, h2⟩ := one_cas (n := 1 + (a &&& 3)) h1 (by decide) (w := w) (by omega) (by omega)
    have f1 : hawthornlaw12_StoreCas_1 1 (⟨2, [107], v, 0, 0⟩ : api_Op) (some ⟨cfS, some ⟨[], 0⟩, some p0, [], 0, 0, 0, ⟨0, 0⟩⟩) = some (⟨0, [], 0 + 1⟩, 0, some s1) := by
      unfold hawthornlaw12_StoreCas_1
      rw [om_some, show store_Store_Apply ⟨cfS, some ⟨[], 0⟩, some p0, [], 0, 0, 0, ⟨0, 0⟩⟩ ⟨1, 0, 1, 1, ⟨2, [107], v, 0, 0⟩⟩ = _ from e1]; rfl
    rw [f1, Option.bind_some]
    have f2 : hawthornlaw12_StoreCas_1 2 (⟨4, [107], w, 0, 1 + (a &&& 3)⟩ : api_Op) (some s1) = some ((if (0 + 1 : UInt64) = 1 + (a &&& 3) then (⟨0, [], 0 + 1 + 1⟩ : api_Reply) else ⟨121, [], 0 + 1⟩), 0, some s2) := by
      unfold hawthornlaw12_StoreCas_1
      rw [om_some, show store_Store_Apply s1 ⟨2, 0, 1, 2, ⟨4, [107], w, 0, 1 + (a &&& 3)⟩⟩ = _ from e2]; rfl
    dsimp only
    rw [f2, Option.bind_some]
    by_cases cn : (0 + 1 : UInt64) = 1 + (a &&& 3)
    · rw [if_pos cn] at h2
      have cn2 : ((1 + (a &&& 3)) == (1 : UInt64)) = true := by rw [← cn]; decide
      obtain ⟨s3, e3, h5⟩ := one_cas (n := 1) h2 (by decide) (w := v) (by omega) (by decide)
      rw [if_neg (by decide)] at e3 h5
      obtain ⟨s4, e4⟩ := one_get h5 (by decide)
      have f3 : hawthornlaw12_StoreCas_1 3 (⟨4, [107], v, 0, 1⟩ : api_Op) (some s2) = some (⟨121, [], 0 + 1 + 1⟩, 0, some s3) := by
        unfold hawthornlaw12_StoreCas_1
        rw [om_some, show store_Store_Apply s2 ⟨3, 0, 1, 3, ⟨4, [107], v, 0, 1⟩⟩ = _ from e3]; rfl
      have f4 : hawthornlaw12_StoreCas_1 4 (⟨1, [107], [], 0, 0⟩ : api_Op) (some s3) = some (⟨0, w, 0 + 1 + 1⟩, 0, some s4) := by
        unfold hawthornlaw12_StoreCas_1
        rw [om_some, show store_Store_Apply s3 ⟨4, 0, 1, 4, ⟨1, [107], [], 0, 0⟩⟩ = _ from e4]; rfl
      dsimp only
      rw [f3, Option.bind_some, f4, Option.bind_some, awake12, Option.bind_some, if_neg (by dsimp only; decide), if_pos cn2, if_pos cn]
      simp
    · rw [if_neg cn] at h2
      have cn2 : ((1 + (a &&& 3)) == (1 : UInt64)) = false := by
        rw [Bool.eq_false_iff]; intro z; exact cn (by rw [eq_of_beq z]; decide)
      obtain ⟨s3, e3, h5⟩ := one_cas (n := 1) h2 (by decide) (w := v) (by omega) (by decide)
      rw [if_pos (by decide)] at e3 h5
      obtain ⟨s4, e4⟩ := one_get h5 (by decide)
      have f3 : hawthornlaw12_StoreCas_1 3 (⟨4, [107], v, 0, 1⟩ : api_Op) (some s2) = some (⟨0, [], 0 + 1 + 1⟩, 0, some s3) := by
        unfold hawthornlaw12_StoreCas_1
        rw [om_some, show store_Store_Apply s2 ⟨3, 0, 1, 3, ⟨4, [107], v, 0, 1⟩⟩ = _ from e3]; rfl
      have f4 : hawthornlaw12_StoreCas_1 4 (⟨1, [107], [], 0, 0⟩ : api_Op) (some s3) = some (⟨0, v, 0 + 1 + 1⟩, 0, some s4) := by
        unfold hawthornlaw12_StoreCas_1
        rw [om_some, show store_Store_Apply s3 ⟨4, 0, 1, 4, ⟨1, [107], [], 0, 0⟩⟩ = _ from e4]; rfl
      dsimp only
      rw [f3, Option.bind_some, f4, Option.bind_some, awake12, Option.bind_some, if_neg (by dsimp only; decide), if_neg (by rw [cn2]; decide), if_neg cn]
      simp
end Go.Proofs.Ytpanhdnglicknaa.Pure
