import Derived.Test.YtpanhdnglicknaaGreatW3
import Derived.Test.YtpanhdnglicknaaGreatPskZ
import Derived.Test.YtpanhdnglicknaaGreatPskP
import Derived.Test.YtpanhdnglicknaaGreatPringA
import Derived.Test.YtpanhdnglicknaaGreatPringB
import Derived.Test.YtpanhdnglicknaaGreatPringC
import Derived.Test.YtpanhdnglicknaaGreatPringD
import Derived.Test.YtpanhdnglicknaaGreatPringE
import Derived.Test.YtpanhdnglicknaaGreatPringF
import Derived.Test.YtpanhdnglicknaaGreatPtinyZ
import Derived.Test.YtpanhdnglicknaaGreatPtinyB
import Derived.Test.YtpanhdnglicknaaGreatPtinyC
import Derived.Test.YtpanhdnglicknaaGreatPtinyY
import Derived.Test.YtpanhdnglicknaaGreatParcA
import Derived.Test.YtpanhdnglicknaaGreatParcB
import Derived.Test.YtpanhdnglicknaaGreatPpolA
import Derived.Test.YtpanhdnglicknaaGreatPstA
import Derived.Test.YtpanhdnglicknaaGreatPstB
set_option linter.unusedVariables false
set_option linter.unusedSectionVars false
set_option linter.unusedSimpArgs false
set_option maxRecDepth 100000
set_option maxHeartbeats 8000000

namespace Go.Proofs.YtpanhdnglicknaaGreat.Pure
open Go Go.Proofs.YtpanhdnglicknaaGreat.Hw Go.Proofs.YtpanhdnglicknaaGreat

def lst0 : store_last := ⟨0, (⟨0, [], 0⟩ : api_Reply)⟩
/-- What stands behind the ends. -/
def aRest (s : store_Store) (x : api_Record) : Option (api_Reply × Int × store_Store) :=
  if (x.Op.Kind == 5) then some ((⟨0, [], 0⟩ : api_Reply), 0, s) else if ((mget s.sessions x.Session).isSome && (x.Num == (((mget s.sessions x.Session).getD lst0).num))) then some ((((mget s.sessions x.Session).getD lst0).reply), 0, s)
  else if ((mget s.sessions x.Session).isSome && decide (x.Num < (((mget s.sessions x.Session).getD lst0).num))) then some ((⟨122, [], 0⟩ : api_Reply), 0, s) else if (!((mget s.sessions x.Session).isSome) && decide (64 ≤ (s.sessions.length : Int))) then some ((⟨3, [], 0⟩ : api_Reply), 0, s)
  else (store_Store_do s x.Op).bind fun r37 => some (r37.1, 0, (⟨r37.2.c, r37.2.t, r37.2.p, mput r37.2.sessions x.Session (⟨x.Num, r37.1⟩ : store_last), r37.2.seq, r37.2.now, r37.2.version, r37.2.tally⟩ : store_Store))
def mx (a b : UInt64) : UInt64 := if a < b then b else a
theorem mx_n (a b : UInt64) : (mx a b).toNat = max a.toNat b.toNat := by
  unfold mx
  split
  · rename_i h; rw [UInt64.lt_iff_toNat_lt] at h; omega
  · rename_i h; rw [UInt64.lt_iff_toNat_lt] at h; omega
theorem keys_mem {m : TM} {k : Str} : k ∈ keys m ↔ ∃ e, mget m k = some e := by
  have h := mget_keys (m := m) (k := k)
  constructor
  · intro hk
    cases hg : mget m k with
    | none => rw [hg] at h; simp [hk] at h
    | some e => exact ⟨e, rfl⟩
  · rintro ⟨e, he⟩; rw [he] at h; simpa using h.symm
theorem msz_dels : ∀ (L : List Str) (m : TM), msz (mdels m L) ≤ msz m := by
  intro L
  induction L with
  | nil => exact fun m => Nat.le_refl _
  | cons x L ih =>
    intro m
    refine Nat.le_trans (ih (mdel m x)) ?_
    cases hg : mget m x with
    | none => rw [mdel_no hg]; exact Nat.le_refl _
    | some e => have := msz_del hg; omega
section
variable {n : Nat} {c : api_Config} {t : table_Table} {p : policy_Policy} {ss : List (UInt64 × store_last)} {sq nw vr : UInt64} {ty : api_Tally} {K : List Str}
theorem st_apply (ht : TB K t) (hp : PR n p K) {x : api_Record} (hc : op_Check x.Op = true) (h1 : ((x.Seq == 0) || ((x.Seq - 1) != sq)) = false) :
    ∃ t1 p1 K1, store_Store_Apply ⟨c, some t, some p, ss, sq, nw, vr, ty⟩ x = aRest ⟨c, some t1, some p1, ss, sq + 1, mx nw x.Now, vr, ty⟩ x ∧ TB K1 t1 ∧ PR n p1 K1 ∧
      (∀ k, endsAt t.m (mx nw x.Now) k → mget t1.m k = none) ∧ (∀ k, ¬ endsAt t.m (mx nw x.Now) k → mget t1.m k = mget t.m k) ∧ (∀ k, k ∈ K1 ↔ k ∈ K ∧ ¬ endsAt t.m (mx nw x.Now) k) ∧ (∀ q ∈ t1.m, q ∈ t.m) ∧ msz t1.m ≤ msz t.m ∧ ((∀ k, ¬ endsAt t.m (mx nw x.Now) k) → t1.m = t.m ∧ K1 = K) := by
  obtain ⟨L, e1, hn, hl, hm⟩ := ht.ended (mx nw x.Now)
  obtain ⟨t1, p1, e2, a1, a2, a3⟩ := ap_l0 n L (by omega) (((L.length : Int) - 0).toNat + 1) 0 t p K (by omega) (by omega) ht hp
  rw [List.drop_zero] at a1 a2 a3
  refine ⟨t1, p1, _, ?_, a1, a2, fun k hk => ?_, fun k hk => ?_, fun k => ?_, fun q hq => ?_, ?_, fun hno => ?_⟩
  · unfold store_Store_Apply
    dsimp only
    rw [if_neg (by rw [hc]; decide), if_neg (by rw [h1]; decide), om_some]
    have e1' : table_Table_Ended t (if nw < x.Now then x.Now else nw) = some L := e1
    have e2' : store_Store_Apply_l0 L (((L.length : Int) - 0).toNat + 1) 0 t.bytes (some p) t.m = some (t1.bytes, some p1, t1.m) := e2
    rw [e1', Option.bind_some, e2', Option.bind_some]
    rfl
  · rw [a3, (mget_dels L _ ht.uk).1, if_pos ((hm k).2 hk)]
  · rw [a3, (mget_dels L _ ht.uk).1, if_neg (fun z => hk ((hm k).1 z))]
  · rw [mem_rms, hm]
  · have hu := (mget_dels L _ ht.uk).2
    rw [← a3] at hu
    have := mem_mget hu (k := q.1) (e := q.2) hq
    rw [a3, (mget_dels L _ ht.uk).1] at this
    split at this
    · cases this
    · exact mget_mem this
  · rw [a3]; exact msz_dels L _
  · have hL : L = [] := List.eq_nil_iff_forall_not_mem.2 fun k hk => hno k ((hm k).1 hk)
    subst hL
    exact ⟨a3, rfl⟩
theorem st_refuse {s : store_Store} {x : api_Record} (hc : op_Check x.Op = false) : store_Store_Apply s x = some ((⟨0, [], 0⟩ : api_Reply), 1, s) := by
  unfold store_Store_Apply
  rw [if_pos (by rw [hc]; rfl)]
theorem st_seq {s : store_Store} {x : api_Record} (hc : op_Check x.Op = true) (h1 : ((x.Seq == 0) || ((x.Seq - 1) != s.seq)) = true) : store_Store_Apply s x = some ((⟨0, [], 0⟩ : api_Reply), 123, s) := by
  unfold store_Store_Apply
  rw [if_neg (by rw [hc]; decide), if_pos h1]
/-! an operation -/
theorem do_hit (ht : TB K t) (hp : PR n p K) {o : api_Op} (hk : o.Kind = 1) {e : api_Entry} (hg : mget t.m o.Key = some e) :
    ∃ p', store_Store_do ⟨c, some t, some p, ss, sq, nw, vr, ty⟩ o = some ((⟨0, e.Value, e.Version⟩ : api_Reply), ⟨c, some t, some p', ss, sq, nw, vr, ⟨i64 (ty.Asked + 1), i64 (ty.Hits + 1)⟩⟩) ∧ PR n p' K := by
  have hm : o.Key ∈ K := by have := ht.has o.Key; rw [hg] at this; simpa using this.symm
  obtain ⟨p', e1, h1⟩ := hp.touch hm
  unfold store_Store_do table_Table_Get
  dsimp only
  rw [om_some, lt_eq, if_pos (by rw [hk]; rfl), hg, if_neg (by simp), om_some, e1, Option.bind_some]
  exact ⟨p', rfl, h1⟩
theorem do_miss (ht : TB K t) (hp : PR n p K) {o : api_Op} (hk : o.Kind = 1) (h64 : o.Key.length ≤ 64) (hg : mget t.m o.Key = none) :
    ∃ p', store_Store_do ⟨c, some t, some p, ss, sq, nw, vr, ty⟩ o = some ((⟨2, [], 0⟩ : api_Reply), ⟨c, some t, some p', ss, sq, nw, vr, ⟨i64 (ty.Asked + 1), ty.Hits⟩⟩) ∧ PR n p' K := by
  obtain ⟨p', e1, h1⟩ := hp.miss h64
  unfold store_Store_do table_Table_Get
  dsimp only
  rw [om_some, lt_eq, if_pos (by rw [hk]; rfl), hg, if_pos (by simp), om_some, e1, Option.bind_some]
  exact ⟨p', rfl, h1⟩
theorem do_none {o : api_Op} (hk : o.Kind = 3 ∨ o.Kind = 4) (hg : mget t.m o.Key = none) :
    store_Store_do ⟨c, some t, some p, ss, sq, nw, vr, ty⟩ o = some ((⟨2, [], 0⟩ : api_Reply), ⟨c, some t, some p, ss, sq, nw, vr, ty⟩) := by
  unfold store_Store_do table_Table_Get
  dsimp only
  rcases hk with hk | hk
  · rw [om_some, lt_eq, if_neg (by rw [hk]; decide), if_pos (by rw [hk]; rfl), hg, if_pos (by simp)]
  · rw [om_some, lt_eq, if_neg (by rw [hk]; decide), if_neg (by rw [hk]; decide), if_pos (by rw [hk]; rfl), hg, if_pos (by simp)]
theorem do_del (ht : TB K t) (hp : PR n p K) {o : api_Op} (hk : o.Kind = 3) {e : api_Entry} (hg : mget t.m o.Key = some e) :
    ∃ t' p', store_Store_do ⟨c, some t, some p, ss, sq, nw, vr, ty⟩ o = some ((⟨0, [], e.Version⟩ : api_Reply), ⟨c, some t', some p', ss, sq, nw, vr, ty⟩) ∧ t'.m = mdel t.m o.Key ∧ TB (TL.rm K o.Key) t' ∧ PR n p' (TL.rm K o.Key) := by
  obtain ⟨t', e1, e2, h1⟩ := ht.drop o.Key
  obtain ⟨b, p', e3, h2⟩ := hp.remove o.Key
  unfold store_Store_do table_Table_Get
  dsimp only
  rw [om_some, lt_eq, if_neg (by rw [hk]; decide), if_pos (by rw [hk]; rfl), hg, if_neg (by simp), lt_eq, e1, om_some, e3, Option.bind_some]
  exact ⟨t', p', rfl, e2, h1, h2⟩
theorem do_cas (o : api_Op) (hk : o.Kind = 4) {e : api_Entry} (hg : mget t.m o.Key = some e) :
    store_Store_do ⟨c, some t, some p, ss, sq, nw, vr, ty⟩ o = if e.Version = o.Version then store_Store_put ⟨c, some t, some p, ss, sq, nw, vr, ty⟩ o else some ((⟨121, [], e.Version⟩ : api_Reply), ⟨c, some t, some p, ss, sq, nw, vr, ty⟩) := by
  unfold store_Store_do table_Table_Get
  dsimp only
  rw [om_some, lt_eq, if_neg (by rw [hk]; decide), if_neg (by rw [hk]; decide), if_pos (by rw [hk]; rfl), hg, if_neg (by simp)]
  dsimp only [Option.getD_some]
  by_cases h : e.Version = o.Version
  · rw [if_neg (by simp [h]), if_pos h]
    cases store_Store_put ⟨c, some t, some p, ss, sq, nw, vr, ty⟩ o <;> rfl
  · rw [if_pos (by simp [h]), if_neg h]
theorem do_put (o : api_Op) (hk : o.Kind ≠ 1 ∧ o.Kind ≠ 3 ∧ o.Kind ≠ 4) : store_Store_do ⟨c, some t, some p, ss, sq, nw, vr, ty⟩ o = store_Store_put ⟨c, some t, some p, ss, sq, nw, vr, ty⟩ o := by
  unfold store_Store_do table_Table_Get
  dsimp only
  rw [om_some, lt_eq, if_neg (by simp [hk.1]), if_neg (by simp [hk.2.1]), if_neg (by simp [hk.2.2])]
  cases store_Store_put ⟨c, some t, some p, ss, sq, nw, vr, ty⟩ o <;> rfl
end
theorem tb_new : TB [] ⟨[], 0⟩ := ⟨List.nodup_nil, fun _ h => (by cases h), rfl, List.Perm.refl _, by simp⟩
theorem new_s (k : Nat) (hk : k = 1 ∨ k = 2) (n B : Nat) (seed : UInt64) (h1 : 1 ≤ n) (h2 : n ≤ 1000) (h3 : 1 ≤ B) (h4 : B ≤ 1048576) :
    ∃ p, store_New ⟨(k : Int), (n : Int), (B : Int), seed⟩ = some (some ⟨⟨(k : Int), (n : Int), (B : Int), seed⟩, some ⟨[], 0⟩, some p, [], 0, 0, 0, ⟨0, 0⟩⟩, 0) ∧ PR n p [] := by
  have hc : store_Check ⟨(k : Int), (n : Int), (B : Int), seed⟩ = true := by
    unfold store_Check
    simp only [Bool.and_eq_true, decide_eq_true_eq]
    refine ⟨⟨⟨⟨?_, by omega⟩, by omega⟩, by omega⟩, by omega⟩
    rcases hk with rfl | rfl <;> rfl
  unfold store_New
  rw [if_neg (by rw [hc]; decide)]
  dsimp only
  rcases hk with rfl | rfl
  · obtain ⟨p, e, h⟩ := new_p1 n seed h1 h2
    rw [show policy_New ((1 : Nat) : Int) (n : Int) seed = _ from e, Option.bind_some, lt_eq]
    exact ⟨p, rfl, h⟩
  · obtain ⟨p, e, h⟩ := new_p2 n seed h1 h2
    rw [show policy_New ((2 : Nat) : Int) (n : Int) seed = _ from e, Option.bind_some, lt_eq]
    exact ⟨p, rfl, h⟩
/-- A record of a session that is known, or of which there is room, that asks for something new. -/
theorem rest_do {s : store_Store} {x : api_Record} (hk : x.Op.Kind ≠ 5) (hs : (mget s.sessions x.Session = none ∧ s.sessions.length < 64) ∨ ∃ l, mget s.sessions x.Session = some l ∧ l.num < x.Num) :
    aRest s x = (store_Store_do s x.Op).bind fun r37 => some (r37.1, 0, (⟨r37.2.c, r37.2.t, r37.2.p, mput r37.2.sessions x.Session (⟨x.Num, r37.1⟩ : store_last), r37.2.seq, r37.2.now, r37.2.version, r37.2.tally⟩ : store_Store)) := by
  unfold aRest
  rw [if_neg (by simp [hk])]
  rcases hs with ⟨h1, h2⟩ | ⟨l, h1, h2⟩
  · rw [h1, if_neg (by simp), if_neg (by simp), if_neg (by simp; omega)]
  · rw [UInt64.lt_iff_toNat_lt] at h2
    rw [h1, if_neg (by simp only [Option.isSome_some, Option.getD_some, Bool.true_and, beq_iff_eq]; intro z; rw [z] at h2; omega), if_neg (by simp only [Option.isSome_some, Option.getD_some, Bool.true_and, decide_eq_true_eq, UInt64.lt_iff_toNat_lt]; omega), if_neg (by simp)]
end Go.Proofs.YtpanhdnglicknaaGreat.Pure
