import Derived.Test.YtpanhdnglicknaaGreatW3
import Derived.Test.YtpanhdnglicknaaGreatPskZ
import Derived.Test.YtpanhdnglicknaaGreatPskP
import Derived.Test.YtpanhdnglicknaaGreatPringA
import Derived.Test.YtpanhdnglicknaaGreatPringB
import Derived.Test.YtpanhdnglicknaaGreatPringC
import Derived.Test.YtpanhdnglicknaaGreatPringD
import Derived.Test.YtpanhdnglicknaaGreatPringE
import Derived.Test.YtpanhdnglicknaaGreatPringF
import Derived.Test.YtpanhdnglicknaaGreatPtinyZ
import Derived.Test.YtpanhdnglicknaaGreatPtinyB
import Derived.Test.YtpanhdnglicknaaGreatPtinyC
import Derived.Test.YtpanhdnglicknaaGreatPtinyY
import Derived.Test.YtpanhdnglicknaaGreatParcA
import Derived.Test.YtpanhdnglicknaaGreatParcB
import Derived.Test.YtpanhdnglicknaaGreatPpolA
import Derived.Test.YtpanhdnglicknaaGreatPstA
set_option linter.unusedVariables false
set_option linter.unusedSectionVars false
set_option linter.unusedSimpArgs false
set_option maxRecDepth 100000
set_option maxHeartbeats 8000000

namespace Go.Proofs.YtpanhdnglicknaaGreat.Pure
open Go Go.Proofs.YtpanhdnglicknaaGreat.Hw Go.Proofs.YtpanhdnglicknaaGreat

theorem awake12 : hawthornlaw12_awake = some true := by decide +kernel
theorem i_a1 {j : Nat} (h : j < 4294967296) : i64 ((j : Int) + 1) = ((j + 1 : Nat) : Int) := by rw [i64s] <;> omega
theorem drop_at' {α : Type} {l : List α} {j : Nat} (h : j < l.length) : l.drop j = l[j] :: l.drop (j + 1) := by rw [List.drop_eq_getElem_cons h]
section
variable {K : List Str} {t : table_Table}
theorem TB.mkeys (h : TB K t) : Hw.mkeys t.m = some (ksort (keys t.m)) := by
  have hl := h.len
  have := h.le
  unfold Hw.mkeys
  rw [if_pos (by
    rw [Bool.and_eq_true]
    refine ⟨by simp; omega, ?_⟩
    rw [List.all_eq_true]
    intro p hp
    have := (h.en p hp).2.1
    simp; omega)]
  rfl
/-- Which entries end at a tick. -/
def endsAt (m : TM) (now : UInt64) (k : Str) : Prop := ∃ e, mget m k = some e ∧ e.End.toNat ≠ 0 ∧ e.End.toNat ≤ now.toNat
theorem TB.ended (h : TB K t) (now : UInt64) : ∃ L, table_Table_Ended t now = some L ∧ L.Nodup ∧ L.length ≤ 1001 ∧ ∀ k, k ∈ L ↔ endsAt t.m now k := by
  unfold table_Table_Ended
  rw [h.mkeys, Option.bind_some]
  have hp := ksort_perm (keys t.m)
  refine ⟨_, rfl, (hp.nodup_iff.2 h.uk).filter _, ?_, fun k => ?_⟩
  · refine Nat.le_trans (List.length_filter_le _ _) ?_
    rw [hp.length_eq]; unfold keys; have := h.len; have := h.le; simp; omega
  · rw [List.mem_filter, hp.mem_iff]
    unfold endsAt endp
    constructor
    · rintro ⟨h1, h2⟩
      have := mget_keys (m := t.m) (k := k)
      cases hg : mget t.m k with
      | none => rw [hg] at this; simp [h1] at this
      | some e =>
        rw [hg] at h2
        refine ⟨e, rfl, ?_⟩
        simp only [Option.getD_some, Bool.not_eq_true', Bool.or_eq_false_iff, beq_eq_false_iff_ne, ne_eq, decide_eq_false_iff_not, Nat.not_lt] at h2
        exact h2
    · rintro ⟨e, hg, h1, h2⟩
      refine ⟨List.mem_map.2 ⟨_, mget_mem hg, rfl⟩, ?_⟩
      rw [hg]
      simp only [Option.getD_some, Bool.not_eq_true', Bool.or_eq_false_iff, beq_eq_false_iff_ne, ne_eq, decide_eq_false_iff_not, Nat.not_lt]
      exact ⟨h1, h2⟩
end
/-- Entries, and keys, without some. -/
def mdels (m : TM) (L : List Str) : TM := L.foldl (fun m k => mdel m k) m
def rms (K : List Str) (L : List Str) : List Str := L.foldl TL.rm K
theorem mget_dels : ∀ (L : List Str) (m : TM), Uk m → (∀ k, mget (mdels m L) k = if k ∈ L then none else mget m k) ∧ Uk (mdels m L) := by
  intro L
  induction L with
  | nil => exact fun m h => ⟨fun k => rfl, h⟩
  | cons x L ih =>
    intro m h
    obtain ⟨h1, h2⟩ := ih (mdel m x) (h.del x)
    refine ⟨fun k => ?_, h2⟩
    show mget (mdels (mdel m x) L) k = _
    rw [h1, mget_del _ _ _ h]
    by_cases hk : k = x
    · subst hk; simp
    · simp [hk]
theorem mem_rms (L : List Str) : ∀ (K : List Str) (k : Str), k ∈ rms K L ↔ k ∈ K ∧ k ∉ L := by
  induction L with
  | nil => intro K k; simp [rms]
  | cons x L ih =>
    intro K k
    show k ∈ rms (TL.rm K x) L ↔ _
    rw [ih, rm_mem]; simp [and_assoc]
theorem rms_nil (K : List Str) : rms K [] = K := rfl
theorem ap_l0 (n : Nat) (L : List Str) (hL : L.length ≤ 2000) : ∀ (f i : Nat) (t : table_Table) (p : policy_Policy) (K : List Str), f = L.length - i + 1 → i ≤ L.length → TB K t → PR n p K →
    ∃ t' p', store_Store_Apply_l0 L f (i : Int) t.bytes (some p) t.m = some (t'.bytes, some p', t'.m) ∧ TB (rms K (L.drop i)) t' ∧ PR n p' (rms K (L.drop i)) ∧ t'.m = mdels t.m (L.drop i) := by
  intro f
  induction f with
  | zero => intro i t p K h; omega
  | succ f ih =>
    intro i t p K hf hi ht hp
    unfold store_Store_Apply_l0
    by_cases c : i < L.length
    · obtain ⟨t1, e1, e2, h1⟩ := ht.drop L[i]
      obtain ⟨b, p1, e3, h2⟩ := hp.remove L[i]
      rw [if_pos (by simpa using c), gN c, Option.bind_some, lt_eq, show (⟨t.m, t.bytes⟩ : table_Table) = t from rfl, e1, om_some, e3, Option.bind_some, i_a1 (by omega)]
      obtain ⟨t', p', q1, q2, q3, q4⟩ := ih (i + 1) t1 p1 (TL.rm K L[i]) (by omega) (by omega) h1 h2
      refine ⟨t', p', q1, ?_, ?_, ?_⟩
      · rw [drop_at' c]; exact q2
      · rw [drop_at' c]; exact q3
      · rw [drop_at' c, q4, e2]; rfl
    · rw [if_neg (by simpa using c), List.drop_eq_nil_of_le (by omega)]
      exact ⟨t, p, rfl, ht, hp, rfl⟩
/-- Entries go until there is room. -/
theorem put_l0 (n : Nat) (s : store_Store) (B : Nat) (hB : s.c.Bytes = (B : Int)) : ∀ (f : Nat) (t : table_Table) (p : policy_Policy) (K : List Str), K.length < f → TB K t → PR n p K →
    ∃ t' p' K', store_Store_put_l0 s f p t.bytes t.m = some (p', t'.bytes, t'.m) ∧ TB K' t' ∧ PR n p' K' ∧ msz t'.m ≤ B ∧ (∀ k e, mget t'.m k = some e → mget t.m k = some e) ∧ (msz t.m ≤ B → t' = t ∧ K' = K) := by
  intro f
  induction f with
  | zero => intro t p K h; omega
  | succ f ih =>
    intro t p K hf ht hp
    unfold store_Store_put_l0 table_Table_Bytes
    dsimp only
    rw [hB, ht.sz]
    by_cases c : B < msz t.m
    · rw [if_pos (by simpa using c)]
      rcases hp.evict with ⟨e0, _⟩ | ⟨o, p1, e1, om, h1⟩
      · exfalso
        have := ht.len
        rw [e0] at this
        rw [List.length_eq_zero_iff.1 this] at c
        simp [msz] at c
      · obtain ⟨t1, e2, e3, h2⟩ := ht.drop o
        have := rm_len hp.nd om
        rw [e1, Option.bind_some, if_neg (by simp), lt_eq, ← ht.sz, show (⟨t.m, t.bytes⟩ : table_Table) = t from rfl, e2]
        obtain ⟨t', p', K', q1, q2, q3, q4, q5, q6⟩ := ih t1 p1 (TL.rm K o) (by omega) h2 h1
        refine ⟨t', p', K', q1, q2, q3, q4, fun k e hk => ?_, fun z => by omega⟩
        have := q5 k e hk
        rw [e3, mget_del _ _ _ ht.uk] at this
        split at this
        · cases this
        · exact this
    · rw [if_neg (by simpa using c), ← ht.sz]
      exact ⟨t, p, K, rfl, ht, hp, by omega, fun _ _ h => h, fun _ => ⟨rfl, rfl⟩⟩
theorem put_l1 (g : List Str) (p : policy_Policy) (hg : g.length ≤ 1) (t : table_Table) (K : List Str) (ht : TB K t) : ∃ t', store_Store_put_l1 (g, p) (((g.length : Int) - 0).toNat + 1) 0 t.bytes t.m = some (t'.bytes, t'.m) ∧ TB (rms K g) t' ∧ t'.m = mdels t.m g := by
  match g, hg with
  | [], _ =>
    unfold store_Store_put_l1
    rw [if_neg (by simp)]
    exact ⟨t, rfl, ht, rfl⟩
  | [o], _ =>
    obtain ⟨t1, e1, e2, h1⟩ := ht.drop o
    show ∃ t', store_Store_put_l1 ([o], p) 2 0 t.bytes t.m = _ ∧ _
    unfold store_Store_put_l1
    rw [if_pos (by simp), show gi [o] 0 = some o from rfl, Option.bind_some, lt_eq, show (⟨t.m, t.bytes⟩ : table_Table) = t from rfl, e1]
    unfold store_Store_put_l1
    rw [if_neg (by show ¬ decide (i64 ((0 : Int) + 1) < ((1 : Nat) : Int)) = true; decide)]
    exact ⟨t1, rfl, h1, e2⟩
/-- When an entry endsAt that lives so long. -/
def endv (now ttl : UInt64) : UInt64 := if (decide (0 < ttl) && decide (now < 18446744073709551615)) then now + (if (18446744073709551615 - now) < ttl then 18446744073709551615 - now else ttl) else 0
theorem endv_ok (now ttl : UInt64) : (endv now ttl).toNat = 0 ∨ now.toNat < (endv now ttl).toNat := by
  unfold endv
  by_cases c : (decide (0 < ttl) && decide (now < 18446744073709551615)) = true
  · rw [if_pos c]
    simp only [Bool.and_eq_true, decide_eq_true_eq, UInt64.lt_iff_toNat_lt] at c
    have h1 : (0 : UInt64).toNat = 0 := rfl
    have h2 : (18446744073709551615 : UInt64).toNat = 18446744073709551615 := rfl
    have hs : (18446744073709551615 - now).toNat = 18446744073709551615 - now.toNat := by
      rw [UInt64.toNat_sub_of_le _ _ (by rw [UInt64.le_iff_toNat_le]; omega)]; omega
    right
    by_cases c2 : (18446744073709551615 - now) < ttl
    · rw [if_pos c2, UInt64.toNat_add, hs]; omega
    · rw [if_neg c2]
      rw [UInt64.lt_iff_toNat_lt, hs] at c2
      rw [UInt64.toNat_add]; omega
  · rw [if_neg c]; left; rfl
theorem rms_one (K : List Str) (o : Str) : rms K [o] = TL.rm K o := rfl
/-- A value is laid. -/
theorem st_put {n B : Nat} {c : api_Config} {t : table_Table} {p : policy_Policy} {ss : List (UInt64 × store_last)} {sq nw vr : UInt64} {ty : api_Tally} {o : api_Op} {K : List Str} (hB : c.Bytes = (B : Int)) (hB2 : B ≤ 1048576) (ht : TB K t) (hp : PR n p K)
    (hk : o.Key.length ≤ 64) (hv : o.Value.length ≤ 4096) :
    (B < o.Key.length + o.Value.length ∧ store_Store_put ⟨c, some t, some p, ss, sq, nw, vr, ty⟩ o = some ((⟨120, [], 0⟩ : api_Reply), ⟨c, some t, some p, ss, sq, nw, vr, ty⟩)) ∨
    (o.Key.length + o.Value.length ≤ B ∧ ∃ t' p' K', store_Store_put ⟨c, some t, some p, ss, sq, nw, vr, ty⟩ o = some ((⟨0, [], vr + 1⟩ : api_Reply), ⟨c, some t', some p', ss, sq, nw, vr + 1, ty⟩) ∧ TB K' t' ∧ PR n p' K' ∧ msz t'.m ≤ B ∧
      (∀ k e, mget t'.m k = some e → (k ≠ o.Key ∧ mget t.m k = some e) ∨ (k = o.Key ∧ e = ⟨o.Key, o.Value, vr + 1, endv nw o.TTL⟩)) ∧
      ((o.Key ∈ K ∨ K.length < n) → msz (mput (mdel t.m o.Key) o.Key ⟨o.Key, o.Value, vr + 1, endv nw o.TTL⟩) ≤ B → t'.m = mput (mdel t.m o.Key) o.Key ⟨o.Key, o.Value, vr + 1, endv nw o.TTL⟩ ∧ K'.Perm (o.Key :: TL.rm K o.Key))) := by
  have hn := hp.n1
  have hKn := hp.le
  have e0 : i64 ((o.Key.length : Int) + (o.Value.length : Int)) = ((o.Key.length + o.Value.length : Nat) : Int) := by rw [i64s _ (by omega) (by omega)]; omega
  unfold store_Store_put
  dsimp only
  rw [hB, e0]
  by_cases cb : B < o.Key.length + o.Value.length
  · left
    rw [if_pos (by simp; omega)]
    exact ⟨cb, rfl⟩
  · right
    refine ⟨by omega, ?_⟩
    rw [if_neg (by simp; omega)]
    have eE : (if (decide (0 < o.TTL) && decide (nw < 18446744073709551615)) = true then some (nw + (if (18446744073709551615 - nw) < o.TTL then 18446744073709551615 - nw else o.TTL)) else some 0) = some (endv nw o.TTL) := by
      unfold endv; split <;> rfl
    rw [eE, Option.bind_some, om_some, lt_eq]
    generalize endv nw o.TTL = en
    have hrm := rm_le K o.Key
    obtain ⟨t1, e1, e2, h1⟩ := ht.put (e := (⟨o.Key, o.Value, vr + 1, en⟩ : api_Entry)) hk hv (by dsimp only; omega)
    dsimp only at e1 e2 h1
    rw [e1, om_some]
    have PI : ∃ g p1 K1, policy_Policy_Insert p o.Key = some (g, p1) ∧ PR n p1 K1 ∧ g.length ≤ 1 ∧ K1.Perm (rms (o.Key :: TL.rm K o.Key) g) ∧ ((o.Key ∈ K ∨ K.length < n) → g = []) := by
      by_cases ck : o.Key ∈ K
      · obtain ⟨p1, e, q⟩ := hp.insert_yes ck
        exact ⟨[], p1, K, e, q, by simp, rm_perm hp.nd ck, fun _ => rfl⟩
      · obtain ⟨g, p1, K1, e, q, hg, hr⟩ := hp.insert ck hk
        refine ⟨g, p1, K1, e, q, ?_, ?_, fun z => hr (z.resolve_left ck)⟩
        · rcases hg with ⟨rfl, _⟩ | ⟨x, rfl, _⟩ <;> simp
        · rw [rm_no ck]
          rcases hg with ⟨rfl, rfl⟩ | ⟨x, rfl, _, rfl⟩
          · exact List.Perm.refl _
          · exact List.Perm.refl _
    obtain ⟨g, p1, K1, e3, h2, hg, hK1, hgn⟩ := PI
    obtain ⟨t2, e4, h3, e5⟩ := put_l1 g p1 hg t1 _ h1
    have h3' := h3.perm hK1.symm
    have hK1n := h2.le
    obtain ⟨t3, p3, K3, e6, h4, h5, h6, h7, h8⟩ := put_l0 n ⟨c, some t, some p, ss, sq, nw, vr, ty⟩ B hB 1100 t2 p1 K1 (by omega) h3' h2
    rw [e3, Option.bind_some]
    dsimp only
    rw [e4, Option.bind_some]
    dsimp only
    rw [e6, Option.bind_some]
    refine ⟨t3, p3, K3, rfl, h4, h5, h6, fun k e hke => ?_, fun z1 z2 => ?_⟩
    · have q := h7 k e hke
      rw [e5, (mget_dels g _ h1.uk).1] at q
      split at q
      · cases q
      · rw [e2, mget_put, mget_del _ _ _ ht.uk] at q
        by_cases hke2 : k = o.Key
        · subst hke2; rw [if_pos (by simp)] at q; exact .inr ⟨rfl, (Option.some.inj q).symm⟩
        · rw [if_neg (by simpa using hke2), if_neg (by simpa using hke2)] at q; exact .inl ⟨hke2, q⟩
    · have hg0 := hgn z1
      subst hg0
      have et : t2.m = t1.m := e5
      obtain ⟨q1, q2⟩ := h8 (by rw [et, e2]; exact z2)
      rw [q1, et, e2, q2]
      exact ⟨rfl, hK1⟩
end Go.Proofs.YtpanhdnglicknaaGreat.Pure
