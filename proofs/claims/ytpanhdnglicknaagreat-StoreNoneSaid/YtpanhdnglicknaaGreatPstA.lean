import Derived.Test.YtpanhdnglicknaaGreatW3
import Derived.Test.YtpanhdnglicknaaGreatPskZ
import Derived.Test.YtpanhdnglicknaaGreatPskP
import Derived.Test.YtpanhdnglicknaaGreatPringA
import Derived.Test.YtpanhdnglicknaaGreatPringB
import Derived.Test.YtpanhdnglicknaaGreatPringC
import Derived.Test.YtpanhdnglicknaaGreatPringD
import Derived.Test.YtpanhdnglicknaaGreatPringE
import Derived.Test.YtpanhdnglicknaaGreatPringF
import Derived.Test.YtpanhdnglicknaaGreatPtinyZ
import Derived.Test.YtpanhdnglicknaaGreatPtinyB
import Derived.Test.YtpanhdnglicknaaGreatPtinyC
import Derived.Test.YtpanhdnglicknaaGreatPtinyY
import Derived.Test.YtpanhdnglicknaaGreatParcA
import Derived.Test.YtpanhdnglicknaaGreatParcB
import Derived.Test.YtpanhdnglicknaaGreatPpolA
set_option linter.unusedVariables false
set_option linter.unusedSectionVars false
set_option linter.unusedSimpArgs false
set_option maxRecDepth 100000
set_option maxHeartbeats 8000000

namespace Go.Proofs.YtpanhdnglicknaaGreat.Pure
open Go Go.Proofs.YtpanhdnglicknaaGreat.Hw Go.Proofs.YtpanhdnglicknaaGreat

abbrev TM := List (Str × api_Entry)
def esz (e : api_Entry) : Nat := e.Key.length + e.Value.length
def msz (m : TM) : Nat := (m.map fun p => esz p.2).sum
def keys (m : TM) : List Str := m.map (·.1)
theorem mget_mem {m : TM} {k : Str} {e : api_Entry} (h : mget m k = some e) : (k, e) ∈ m := by
  induction m with
  | nil => cases h
  | cons p m ih =>
    obtain ⟨a, u⟩ := p
    unfold mget at h
    split at h
    · rename_i hk
      have := eq_of_beq hk; subst this; cases h; simp
    · exact List.mem_cons_of_mem _ (ih h)
theorem mem_mget {m : TM} (hu : Uk m) {k : Str} {e : api_Entry} (h : (k, e) ∈ m) : mget m k = some e := by
  induction m with
  | nil => cases h
  | cons p m ih =>
    obtain ⟨a, u⟩ := p
    unfold Uk at hu ih
    simp only [List.map_cons, List.nodup_cons] at hu
    rcases List.mem_cons.1 h with q | q
    · cases q; unfold mget; rw [if_pos (by simp)]
    · unfold mget
      have hne : ¬ (k == a) = true := fun z => hu.1 (by rw [← eq_of_beq z]; exact List.mem_map.2 ⟨_, q, rfl⟩)
      rw [if_neg hne]; exact ih hu.2 q
theorem mget_keys {m : TM} {k : Str} : (mget m k).isSome = decide (k ∈ keys m) := by
  have := mget_none m k
  cases h : mget m k with
  | none => have h2 := this.1 h; unfold keys; rw [decide_eq_false h2]; rfl
  | some e => simp; unfold keys; exact List.mem_map.2 ⟨_, mget_mem h, rfl⟩
theorem mdel_no {m : TM} {k : Str} (h : mget m k = none) : mdel m k = m := by
  induction m with
  | nil => rfl
  | cons p m ih =>
    obtain ⟨a, u⟩ := p
    unfold mget at h
    unfold mdel
    split at h
    · cases h
    · rename_i hk; rw [if_neg hk, ih h]
theorem mput_no {m : TM} {k : Str} {e : api_Entry} (h : mget m k = none) : mput m k e = m ++ [(k, e)] := by
  induction m with
  | nil => rfl
  | cons p m ih =>
    obtain ⟨a, u⟩ := p
    unfold mget at h
    unfold mput
    split at h
    · cases h
    · rename_i hk; rw [if_neg hk, ih h]; rfl
theorem msz_del {m : TM} {k : Str} {e : api_Entry} (h : mget m k = some e) : msz (mdel m k) + esz e = msz m := by
  induction m with
  | nil => cases h
  | cons p m ih =>
    obtain ⟨a, u⟩ := p
    unfold mget at h
    unfold mdel
    split at h
    · rename_i hk; cases h; rw [if_pos hk]; unfold msz; simp; omega
    · rename_i hk; rw [if_neg hk]
      have := ih h
      unfold msz at this ⊢; simp at this ⊢; omega
theorem keys_del {m : TM} (hu : Uk m) (k : Str) : keys (mdel m k) = TL.rm (keys m) k := by
  induction m with
  | nil => rfl
  | cons p m ih =>
    obtain ⟨a, u⟩ := p
    unfold Uk at hu ih
    simp only [List.map_cons, List.nodup_cons] at hu
    unfold mdel
    by_cases hk : (k == a) = true
    · have := eq_of_beq hk; subst this
      rw [if_pos hk]
      show keys m = TL.rm (k :: keys m) k
      unfold TL.rm
      rw [List.filter_cons, if_neg (by simp)]
      exact (filter_no hu.1).symm
    · rw [if_neg hk]
      show a :: keys (mdel m k) = TL.rm (a :: keys m) k
      rw [ih hu.2]
      unfold TL.rm
      rw [List.filter_cons, if_pos (by simp only [Bool.not_eq_true', beq_eq_false_iff_ne, ne_eq]; intro z; exact hk (by simp [z]))]
theorem mdel_sub {m : TM} {k : Str} {p : Str × api_Entry} (h : p ∈ mdel m k) : p ∈ m := by
  induction m with
  | nil => cases h
  | cons q m ih =>
    obtain ⟨a, u⟩ := q
    unfold mdel at h
    split at h
    · exact List.mem_cons_of_mem _ h
    · rcases List.mem_cons.1 h with z | z
      · rw [z]; simp
      · exact List.mem_cons_of_mem _ (ih z)
theorem msz_le {m : TM} {c : Nat} (h : ∀ p ∈ m, esz p.2 ≤ c) : msz m ≤ m.length * c := by
  induction m with
  | nil => simp [msz]
  | cons p m ih =>
    have := ih fun q hq => h q (by simp [hq])
    have h0 := h p (by simp)
    unfold msz at this ⊢
    simp only [List.map_cons, List.sum_cons, List.length_cons]
    rw [Nat.succ_mul]; omega
/-- What holds of a table that has these keys. -/
structure TB (K : List Str) (t : table_Table) : Prop where
  uk : Uk t.m
  en : ∀ p ∈ t.m, p.2.Key = p.1 ∧ p.1.length ≤ 64 ∧ p.2.Value.length ≤ 4096
  sz : t.bytes = (msz t.m : Int)
  pm : (keys t.m).Perm K
  le : K.length ≤ 1001
section
variable {K : List Str} {t : table_Table}
theorem TB.len (h : TB K t) : t.m.length = K.length := by have := h.pm.length_eq; unfold keys at this; simpa using this
theorem TB.es (h : TB K t) : ∀ p ∈ t.m, esz p.2 ≤ 4160 := fun p hp => by
  obtain ⟨h1, h2, h3⟩ := h.en p hp
  unfold esz; rw [h1]; omega
theorem TB.msz (h : TB K t) : msz t.m ≤ 4164160 := by
  have := msz_le h.es
  rw [h.len] at this
  have := h.le
  omega
theorem TB.has (h : TB K t) (k : Str) : (mget t.m k).isSome = decide (k ∈ K) := by
  rw [mget_keys]
  have := h.pm.mem_iff (a := k)
  simp only [this]
theorem TB.perm (h : TB K t) {K' : List Str} (hp : K.Perm K') : TB K' t := ⟨h.uk, h.en, h.sz, h.pm.trans hp, by rw [← hp.length_eq]; exact h.le⟩
theorem size_e {e : api_Entry} (h : esz e ≤ 100000) : table_size e = (esz e : Int) := by
  unfold table_size esz at *
  rw [i64s _ (by omega) (by omega)]; omega
theorem TB.drop (h : TB K t) (k : Str) : ∃ t', table_Table_Drop t k = (decide (k ∈ K), t') ∧ t'.m = mdel t.m k ∧ TB (TL.rm K k) t' := by
  have hs := h.has k
  unfold table_Table_Drop table_Table_Get
  rw [lt_eq]
  dsimp only
  cases hg : mget t.m k with
  | none =>
    rw [hg] at hs
    have hk : k ∉ K := by simpa using hs
    rw [if_neg (by simp)]
    refine ⟨t, by simp [hk], (mdel_no hg).symm, ?_⟩
    rw [rm_no hk]; exact h
  | some e =>
    rw [hg] at hs
    have hk : k ∈ K := by simpa using hs
    have he : esz e ≤ 4160 := h.es _ (mget_mem hg)
    have hd := msz_del hg
    have hm := h.msz
    rw [if_pos (by rfl)]
    dsimp only [Option.getD_some]
    rw [size_e (by omega), h.sz]
    have e1 : i64 ((Pure.msz t.m : Int) - (esz e : Int)) = (Pure.msz (mdel t.m k) : Int) := by rw [i64s _ (by omega) (by omega)]; omega
    rw [e1]
    refine ⟨⟨mdel t.m k, (Pure.msz (mdel t.m k) : Int)⟩, by rw [decide_eq_true hk]; rfl, rfl, ⟨h.uk.del k, fun p hp => h.en p (mdel_sub hp), rfl, ?_, ?_⟩⟩
    · show (keys (mdel t.m k)).Perm _
      rw [keys_del h.uk]; exact rm_pm h.pm k
    · exact Nat.le_trans (rm_le K k) h.le
theorem TB.put (h : TB K t) {e : api_Entry} (h64 : e.Key.length ≤ 64) (hv : e.Value.length ≤ 4096) (hl : (TL.rm K e.Key).length ≤ 1000) : ∃ t', table_Table_Put t e = t' ∧ t'.m = mput (mdel t.m e.Key) e.Key e ∧ TB (e.Key :: TL.rm K e.Key) t' := by
  obtain ⟨t1, e1, e2, h1⟩ := h.drop e.Key
  have hno : mget (mdel t.m e.Key) e.Key = none := by rw [mget_del _ _ _ h.uk, if_pos (by simp)]
  have hm := h1.msz
  have hz : esz e ≤ 4160 := by unfold esz; omega
  unfold table_Table_Put
  rw [lt_eq, e1]
  dsimp only
  rw [size_e (by omega), h1.sz, e2]
  have ep := mput_no (e := e) hno
  have es : Pure.msz (mput (mdel t.m e.Key) e.Key e) = Pure.msz (mdel t.m e.Key) + esz e := by
    rw [ep]; unfold Pure.msz; simp
  rw [e2] at hm
  have e3 : i64 ((Pure.msz (mdel t.m e.Key) : Int) + (esz e : Int)) = (Pure.msz (mput (mdel t.m e.Key) e.Key e) : Int) := by rw [i64s _ (by omega) (by omega), es]; omega
  rw [e3]
  refine ⟨_, rfl, rfl, ⟨(h.uk.del _).put _ _, fun p hp => ?_, rfl, ?_, by simp; omega⟩⟩
  · dsimp only at hp
    rw [ep] at hp
    rcases List.mem_append.1 hp with q | q
    · exact h.en p (mdel_sub q)
    · simp at q; subst q; exact ⟨rfl, h64, hv⟩
  · dsimp only
    rw [ep]
    unfold keys
    rw [List.map_append]
    have := h1.pm
    rw [e2] at this
    unfold keys at this
    exact List.perm_append_comm.trans (this.cons _)
end
end Go.Proofs.YtpanhdnglicknaaGreat.Pure
