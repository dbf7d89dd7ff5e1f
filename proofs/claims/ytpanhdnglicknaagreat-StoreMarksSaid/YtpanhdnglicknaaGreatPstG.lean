import Derived.Test.YtpanhdnglicknaaGreatW3
import Derived.Test.YtpanhdnglicknaaGreatPskZ
import Derived.Test.YtpanhdnglicknaaGreatPskP
import Derived.Test.YtpanhdnglicknaaGreatPringA
import Derived.Test.YtpanhdnglicknaaGreatPringB
import Derived.Test.YtpanhdnglicknaaGreatPringC
import Derived.Test.YtpanhdnglicknaaGreatPringD
import Derived.Test.YtpanhdnglicknaaGreatPringE
import Derived.Test.YtpanhdnglicknaaGreatPringF
import Derived.Test.YtpanhdnglicknaaGreatPtinyZ
import Derived.Test.YtpanhdnglicknaaGreatPtinyB
import Derived.Test.YtpanhdnglicknaaGreatPtinyC
import Derived.Test.YtpanhdnglicknaaGreatPtinyY
import Derived.Test.YtpanhdnglicknaaGreatParcA
import Derived.Test.YtpanhdnglicknaaGreatParcB
import Derived.Test.YtpanhdnglicknaaGreatPpolA
import Derived.Test.YtpanhdnglicknaaGreatPstA
import Derived.Test.YtpanhdnglicknaaGreatPstB
import Derived.Test.YtpanhdnglicknaaGreatPstC
import Derived.Test.YtpanhdnglicknaaGreatPstD
set_option linter.unusedVariables false
set_option linter.unusedSectionVars false
set_option linter.unusedSimpArgs false
set_option maxRecDepth 100000
set_option maxHeartbeats 8000000

namespace Go.Proofs.YtpanhdnglicknaaGreat.Pure
open Go Go.Proofs.YtpanhdnglicknaaGreat.Hw Go.Proofs.YtpanhdnglicknaaGreat

/-- What an entry is, at a tick. -/
def enOk (m : TM) (nw : UInt64) : Prop := ∀ k e, mget m k = some e → 1 ≤ e.Version.toNat ∧ (e.End.toNat = 0 ∨ nw.toNat < e.End.toNat)
theorem chk_len {o : api_Op} (h : op_Check o = true) : o.Key.length ≤ 64 ∧ o.Value.length ≤ 4096 := by
  unfold op_Check at h
  split at h
  · cases h
  · rename_i hc
    simp only [Bool.or_eq_true, decide_eq_true_eq, not_or] at hc
    omega
theorem chk_kind {o : api_Op} (h : op_Check o = true) : o.Kind = 1 ∨ o.Kind = 2 ∨ o.Kind = 3 ∨ o.Kind = 4 ∨ o.Kind = 5 := by
  unfold op_Check at h
  split at h
  · cases h
  · rw [lt_eq] at h
    by_cases c1 : o.Kind = 1
    · exact .inl c1
    · by_cases c2 : o.Kind = 2
      · exact .inr (.inl c2)
      · by_cases c3 : o.Kind = 3
        · exact .inr (.inr (.inl c3))
        · by_cases c4 : o.Kind = 4
          · exact .inr (.inr (.inr (.inl c4)))
          · by_cases c5 : o.Kind = 5
            · exact .inr (.inr (.inr (.inr c5)))
            · simp [c1, c2, c3, c4, c5] at h
theorem u1n {v : UInt64} (h : v.toNat < 1000000000) : (v + 1).toNat = v.toNat + 1 := by
  have c1 : (1 : UInt64).toNat = 1 := rfl
  rw [UInt64.toNat_add, c1]; omega
section
variable {n B : Nat} {c : api_Config} {t : table_Table} {p : policy_Policy} {ss : List (UInt64 × store_last)} {sq nw vr : UInt64} {ty : api_Tally} {K : List Str}
theorem put_any {o : api_Op} (hB : c.Bytes = (B : Int)) (hB2 : B ≤ 1048576) (ht : TB K t) (hp : PR n p K) (hs : msz t.m ≤ B) (he : enOk t.m nw) (hv : vr.toNat < 1000000000) (h1 : o.Key.length ≤ 64) (h2 : o.Value.length ≤ 4096) :
    ∃ r t' p' K' vr', store_Store_put ⟨c, some t, some p, ss, sq, nw, vr, ty⟩ o = some (r, ⟨c, some t', some p', ss, sq, nw, vr', ty⟩) ∧ TB K' t' ∧ PR n p' K' ∧ msz t'.m ≤ B ∧ enOk t'.m nw ∧ vr'.toNat ≤ vr.toNat + 1 := by
  rcases st_put (c := c) (ss := ss) (sq := sq) (nw := nw) (vr := vr) (ty := ty) (o := o) hB hB2 ht hp h1 h2 with ⟨_, e⟩ | ⟨_, t', p', K', e, q1, q2, q3, q4, _⟩
  · exact ⟨_, t, p, K, vr, e, ht, hp, hs, he, by omega⟩
  · refine ⟨_, t', p', K', vr + 1, e, q1, q2, q3, fun k x hx => ?_, by rw [u1n hv]; omega⟩
    rcases q4 k x hx with ⟨_, z⟩ | ⟨_, rfl⟩
    · exact he k x z
    · exact ⟨by dsimp only; rw [u1n hv]; omega, endv_ok nw o.TTL⟩
theorem do_any {o : api_Op} (hB : c.Bytes = (B : Int)) (hB2 : B ≤ 1048576) (ht : TB K t) (hp : PR n p K) (hs : msz t.m ≤ B) (he : enOk t.m nw) (hv : vr.toNat < 1000000000) (hc : op_Check o = true) :
    ∃ r t' p' K' vr' ty', store_Store_do ⟨c, some t, some p, ss, sq, nw, vr, ty⟩ o = some (r, ⟨c, some t', some p', ss, sq, nw, vr', ty'⟩) ∧ TB K' t' ∧ PR n p' K' ∧ msz t'.m ≤ B ∧ enOk t'.m nw ∧ vr'.toNat ≤ vr.toNat + 1 ∧
      (o.Kind = 1 → (r.E = 0 ∧ ty' = ⟨i64 (ty.Asked + 1), i64 (ty.Hits + 1)⟩) ∨ (r.E = 2 ∧ ty' = ⟨i64 (ty.Asked + 1), ty.Hits⟩)) ∧ (o.Kind ≠ 1 → ty' = ty) := by
  obtain ⟨h1, h2⟩ := chk_len hc
  by_cases k1 : o.Kind = 1
  · cases hg : mget t.m o.Key with
    | none =>
      obtain ⟨p', e, q⟩ := do_miss (c := c) (ss := ss) (sq := sq) (nw := nw) (vr := vr) (ty := ty) ht hp k1 h1 hg
      exact ⟨_, t, p', K, vr, _, e, ht, q, hs, he, by omega, fun _ => .inr ⟨rfl, rfl⟩, fun z => absurd k1 z⟩
    | some x =>
      obtain ⟨p', e, q⟩ := do_hit (c := c) (ss := ss) (sq := sq) (nw := nw) (vr := vr) (ty := ty) ht hp k1 hg
      exact ⟨_, t, p', K, vr, _, e, ht, q, hs, he, by omega, fun _ => .inl ⟨rfl, rfl⟩, fun z => absurd k1 z⟩
  · by_cases k3 : o.Kind = 3
    · cases hg : mget t.m o.Key with
      | none => exact ⟨_, t, p, K, vr, ty, do_none (.inl k3) hg, ht, hp, hs, he, by omega, fun z => absurd z k1, fun _ => rfl⟩
      | some x =>
        obtain ⟨t', p', e, q1, q2, q3⟩ := do_del (c := c) (ss := ss) (sq := sq) (nw := nw) (vr := vr) (ty := ty) ht hp k3 hg
        have := msz_del hg
        refine ⟨_, t', p', _, vr, ty, e, q2, q3, by rw [q1]; omega, fun k y hy => he k y ?_, by omega, fun z => absurd z k1, fun _ => rfl⟩
        rw [q1, mget_del _ _ _ ht.uk] at hy
        split at hy
        · cases hy
        · exact hy
    · by_cases k4 : o.Kind = 4
      · cases hg : mget t.m o.Key with
        | none => exact ⟨_, t, p, K, vr, ty, do_none (.inr k4) hg, ht, hp, hs, he, by omega, fun z => absurd z k1, fun _ => rfl⟩
        | some x =>
          have e := do_cas (c := c) (t := t) (p := p) (ss := ss) (sq := sq) (nw := nw) (vr := vr) (ty := ty) o k4 hg
          by_cases cv : x.Version = o.Version
          · rw [if_pos cv] at e
            obtain ⟨r, t', p', K', vr', e2, q1, q2, q3, q4, q5⟩ := put_any (c := c) (ss := ss) (sq := sq) (ty := ty) hB hB2 ht hp hs he hv h1 h2
            exact ⟨r, t', p', K', vr', ty, e.trans e2, q1, q2, q3, q4, q5, fun z => absurd z k1, fun _ => rfl⟩
          · rw [if_neg cv] at e
            exact ⟨_, t, p, K, vr, ty, e, ht, hp, hs, he, by omega, fun z => absurd z k1, fun _ => rfl⟩
      · have e := do_put (c := c) (t := t) (p := p) (ss := ss) (sq := sq) (nw := nw) (vr := vr) (ty := ty) o ⟨k1, k3, k4⟩
        obtain ⟨r, t', p', K', vr', e2, q1, q2, q3, q4, q5⟩ := put_any (c := c) (ss := ss) (sq := sq) (ty := ty) hB hB2 ht hp hs he hv h1 h2
        exact ⟨r, t', p', K', vr', ty, e.trans e2, q1, q2, q3, q4, q5, fun z => absurd z k1, fun _ => rfl⟩
end
/-- What holds of a cache behind at most N records. -/
structure SI (n B N : Nat) (c : api_Config) (s : store_Store) (t : table_Table) (p : policy_Policy) (K : List Str) : Prop where
  st : s.t = some t
  sp : s.p = some p
  sc : s.c = c
  cb : c.Bytes = (B : Int)
  b2 : B ≤ 1048576
  tb : TB K t
  pr : PR n p K
  ms : msz t.m ≤ B
  en : enOk t.m s.now
  vn : s.version.toNat ≤ N
  sn : s.seq.toNat ≤ N
/-- A record that asks for something that was told, is older, or of a session for which there is no room: what is told. -/
def Told (s : store_Store) (x : api_Record) (r : api_Reply) : Prop := (∃ l, mget s.sessions x.Session = some l ∧ ((x.Num = l.num ∧ r = l.reply) ∨ (x.Num < l.num ∧ r = ⟨122, [], 0⟩))) ∨ (mget s.sessions x.Session = none ∧ 64 ≤ s.sessions.length ∧ r = ⟨3, [], 0⟩)
/-- What a record that is the next one does. -/
structure Next (s : store_Store) (t : table_Table) (x : api_Record) (r : api_Reply) (s' : store_Store) (t' : table_Table) : Prop where
  seq : s'.seq = s.seq + 1
  now : s'.now = mx s.now x.Now
  cs : (s'.sessions = s.sessions ∧ s'.tally = s.tally ∧ ((x.Op.Kind = 5 ∧ r = ⟨0, [], 0⟩) ∨ (x.Op.Kind ≠ 5 ∧ Told s x r)) ∧ (∀ k, endsAt t.m (mx s.now x.Now) k → mget t'.m k = none) ∧ (∀ k, ¬ endsAt t.m (mx s.now x.Now) k → mget t'.m k = mget t.m k) ∧ ((∀ k, ¬ endsAt t.m (mx s.now x.Now) k) → t'.m = t.m)) ∨
    (x.Op.Kind ≠ 5 ∧ ¬ (∃ r, Told s x r) ∧ s'.sessions = mput s.sessions x.Session ⟨x.Num, r⟩ ∧ (x.Op.Kind = 1 → (r.E = 0 ∧ s'.tally = ⟨i64 (s.tally.Asked + 1), i64 (s.tally.Hits + 1)⟩) ∨ (r.E = 2 ∧ s'.tally = ⟨i64 (s.tally.Asked + 1), s.tally.Hits⟩)) ∧ (x.Op.Kind ≠ 1 → s'.tally = s.tally))
theorem SI.mono {n B N : Nat} {c : api_Config} {s : store_Store} {t : table_Table} {p : policy_Policy} {K : List Str} (h : SI n B N c s t p K) : SI n B (N + 1) c s t p K :=
  ⟨h.st, h.sp, h.sc, h.cb, h.b2, h.tb, h.pr, h.ms, h.en, Nat.le_succ_of_le h.vn, Nat.le_succ_of_le h.sn⟩
theorem SI.apply {n B N : Nat} {c : api_Config} {s : store_Store} {t : table_Table} {p : policy_Policy} {K : List Str} (h : SI n B N c s t p K) (hN : N < 1000000) (x : api_Record) :
    ∃ r e s' t' p' K', store_Store_Apply s x = some (r, e, s') ∧ SI n B (N + 1) c s' t' p' K' ∧ ((e ≠ 0 ∧ s' = s ∧ t' = t ∧ (op_Check x.Op = false ∨ ((x.Seq == 0) || ((x.Seq - 1) != s.seq)) = true)) ∨ (e = 0 ∧ op_Check x.Op = true ∧ ((x.Seq == 0) || ((x.Seq - 1) != s.seq)) = false ∧ Next s t x r s' t')) := by
  by_cases hc : op_Check x.Op = true
  · by_cases hq : ((x.Seq == 0) || ((x.Seq - 1) != s.seq)) = true
    · exact ⟨_, _, s, t, p, K, st_seq hc hq, h.mono, .inl ⟨by decide, rfl, rfl, .inr hq⟩⟩
    · have hq := Bool.eq_false_iff.2 hq
      obtain ⟨c', tt, pp, ss, sq, nw, vr, ty⟩ := s
      have e1 : tt = some t := h.st
      have e2 : pp = some p := h.sp
      have e3 : c' = c := h.sc
      subst e1 e2 e3
      have hvn : vr.toNat ≤ N := h.vn
      have hsn : sq.toNat ≤ N := h.sn
      have hen : enOk t.m nw := h.en
      obtain ⟨t1, p1, K1, e, ht1, hp1, g1, g2, g3, g4, g5, g6⟩ := st_apply (c := c') (ss := ss) (sq := sq) (nw := nw) (vr := vr) (ty := ty) h.tb h.pr hc hq
      have hms := h.ms
      have he1 : enOk t1.m (mx nw x.Now) := fun k y hy => by
        have hne : ¬ endsAt t.m (mx nw x.Now) k := fun z => by rw [g1 k z] at hy; cases hy
        have hy2 := hy
        rw [g2 k hne] at hy
        refine ⟨(hen k y hy).1, ?_⟩
        rcases Nat.eq_zero_or_pos y.End.toNat with q | q
        · exact .inl q
        · right
          rcases Nat.lt_or_ge (mx nw x.Now).toNat y.End.toNat with w | w
          · exact w
          · exact absurd ⟨y, hy, by omega, w⟩ hne
      have hs2 : (sq + 1).toNat = sq.toNat + 1 := u1n (by omega)
      have base : SI n B (N + 1) c' ⟨c', some t1, some p1, ss, sq + 1, mx nw x.Now, vr, ty⟩ t1 p1 K1 := ⟨rfl, rfl, rfl, h.cb, h.b2, ht1, hp1, by omega, he1, by dsimp only; omega, by dsimp only; omega⟩
      rw [e]
      by_cases k5 : x.Op.Kind = 5
      · refine ⟨⟨0, [], 0⟩, 0, _, t1, p1, K1, ?_, base, .inr ⟨rfl, hc, hq, rfl, rfl, .inl ⟨rfl, rfl, .inl ⟨k5, rfl⟩, g1, g2, fun z => (g6 z).1⟩⟩⟩
        unfold aRest
        rw [if_pos (by rw [k5]; rfl)]
      · cases hg : mget ss x.Session with
        | some l =>
          by_cases c1 : x.Num = l.num
          · refine ⟨l.reply, 0, _, t1, p1, K1, ?_, base, .inr ⟨rfl, hc, hq, rfl, rfl, .inl ⟨rfl, rfl, .inr ⟨k5, .inl ⟨l, hg, .inl ⟨c1, rfl⟩⟩⟩, g1, g2, fun z => (g6 z).1⟩⟩⟩
            unfold aRest
            dsimp only
            rw [if_neg (by simp [k5]), hg, if_pos (by simp [c1])]
            rfl
          · by_cases c2 : x.Num < l.num
            · refine ⟨⟨122, [], 0⟩, 0, _, t1, p1, K1, ?_, base, .inr ⟨rfl, hc, hq, rfl, rfl, .inl ⟨rfl, rfl, .inr ⟨k5, .inl ⟨l, hg, .inr ⟨c2, rfl⟩⟩⟩, g1, g2, fun z => (g6 z).1⟩⟩⟩
              unfold aRest
              dsimp only
              rw [if_neg (by simp [k5]), hg, if_neg (by simp [c1]), if_pos (by simp [c2])]
            · have c3 : l.num < x.Num := by
                rw [UInt64.lt_iff_toNat_lt] at c2 ⊢
                have : x.Num.toNat ≠ l.num.toNat := fun z => c1 (UInt64.toNat_inj.1 z)
                omega
              have r1 := rest_do (s := ⟨c', some t1, some p1, ss, sq + 1, mx nw x.Now, vr, ty⟩) (x := x) k5 (.inr ⟨l, hg, c3⟩)
              obtain ⟨r, t2, p2, K2, vr2, ty2, e2, q1, q2, q3, q4, q5, q6, q7⟩ := do_any (c := c') (ss := ss) (sq := sq + 1) (vr := vr) (ty := ty) h.cb h.b2 ht1 hp1 (by omega) he1 (by omega) hc
              refine ⟨r, 0, ⟨c', some t2, some p2, mput ss x.Session ⟨x.Num, r⟩, sq + 1, mx nw x.Now, vr2, ty2⟩, t2, p2, K2, ?_, ⟨rfl, rfl, rfl, h.cb, h.b2, q1, q2, q3, q4, by dsimp only; omega, by dsimp only; omega⟩, .inr ⟨rfl, hc, hq, rfl, rfl, .inr ⟨k5, ?_, rfl, q6, q7⟩⟩⟩
              · rw [r1, e2]; rfl
              · rintro ⟨r, ⟨l', hl', z⟩ | ⟨z, _⟩⟩
                · have hl' : mget ss x.Session = some l' := hl'
                  rw [hg] at hl'; cases hl'
                  rcases z with ⟨z, _⟩ | ⟨z, _⟩
                  · exact c1 z
                  · exact c2 z
                · have z : mget ss x.Session = none := z
                  rw [hg] at z; cases z
        | none =>
          by_cases c1 : 64 ≤ ss.length
          · refine ⟨⟨3, [], 0⟩, 0, _, t1, p1, K1, ?_, base, .inr ⟨rfl, hc, hq, rfl, rfl, .inl ⟨rfl, rfl, .inr ⟨k5, .inr ⟨hg, c1, rfl⟩⟩, g1, g2, fun z => (g6 z).1⟩⟩⟩
            unfold aRest
            dsimp only
            rw [if_neg (by simp [k5]), hg, if_neg (by simp), if_neg (by simp), if_pos (by simp; omega)]
          · have r1 := rest_do (s := ⟨c', some t1, some p1, ss, sq + 1, mx nw x.Now, vr, ty⟩) (x := x) k5 (.inl ⟨hg, by dsimp only; omega⟩)
            obtain ⟨r, t2, p2, K2, vr2, ty2, e2, q1, q2, q3, q4, q5, q6, q7⟩ := do_any (c := c') (ss := ss) (sq := sq + 1) (vr := vr) (ty := ty) h.cb h.b2 ht1 hp1 (by omega) he1 (by omega) hc
            refine ⟨r, 0, ⟨c', some t2, some p2, mput ss x.Session ⟨x.Num, r⟩, sq + 1, mx nw x.Now, vr2, ty2⟩, t2, p2, K2, ?_, ⟨rfl, rfl, rfl, h.cb, h.b2, q1, q2, q3, q4, by dsimp only; omega, by dsimp only; omega⟩, .inr ⟨rfl, hc, hq, rfl, rfl, .inr ⟨k5, ?_, rfl, q6, q7⟩⟩⟩
            · rw [r1, e2]; rfl
            · rintro ⟨r, ⟨l', hl', z⟩ | ⟨_, z, _⟩⟩
              · have hl' : mget ss x.Session = some l' := hl'
                rw [hg] at hl'; cases hl'
              · exact c1 z
  · have hc := Bool.eq_false_iff.2 hc
    exact ⟨_, _, s, t, p, K, st_refuse hc, h.mono, .inl ⟨by decide, rfl, rfl, .inl hc⟩⟩
end Go.Proofs.YtpanhdnglicknaaGreat.Pure
