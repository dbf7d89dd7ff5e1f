import Derived.Test.YtpanhdnglicknaaGreatW3
import Derived.Test.YtpanhdnglicknaaGreatPskZ
import Derived.Test.YtpanhdnglicknaaGreatPskP
import Derived.Test.YtpanhdnglicknaaGreatPringA
import Derived.Test.YtpanhdnglicknaaGreatPringB
import Derived.Test.YtpanhdnglicknaaGreatPringC
import Derived.Test.YtpanhdnglicknaaGreatPringD
import Derived.Test.YtpanhdnglicknaaGreatPringE
import Derived.Test.YtpanhdnglicknaaGreatPringF
import Derived.Test.YtpanhdnglicknaaGreatPtinyZ
import Derived.Test.YtpanhdnglicknaaGreatPtinyB
import Derived.Test.YtpanhdnglicknaaGreatPtinyC
import Derived.Test.YtpanhdnglicknaaGreatPtinyY
import Derived.Test.YtpanhdnglicknaaGreatParcA
import Derived.Test.YtpanhdnglicknaaGreatParcB
set_option linter.unusedVariables false
set_option linter.unusedSectionVars false
set_option linter.unusedSimpArgs false
set_option maxRecDepth 100000
set_option maxHeartbeats 8000000

namespace Go.Proofs.YtpanhdnglicknaaGreat.Pure
open Go Go.Proofs.YtpanhdnglicknaaGreat.Hw Go.Proofs.YtpanhdnglicknaaGreat

theorem TR.Miss {n : Nat} {seed : UInt64} {t : tiny_Tiny} {s : Sk} {x : TL} (h : TR n seed t s x) {k : Str} (hk : k.length ≤ 64) : ∃ t', tiny_Tiny_Miss t k = some t' ∧ TR n seed t' (ad (wd n) seed s k) x := by
  unfold tiny_Tiny_Miss
  rw [if_pos (by simp; omega), h.sk, om_some, h.add (by omega), Option.bind_some]
  obtain ⟨r, hr, hR⟩ := h.rg
  exact ⟨_, rfl, ⟨h.n1, h.n2, h.ms, rfl, h.adok k, ⟨r, hr, hR⟩, h.bb, h.ba, h.bc⟩⟩
theorem ins_room {n : Nat} {seed : UInt64} {t : tiny_Tiny} {s s' : Sk} {x : TL} (_ : TR n seed t s x) {k : Str} (hk : k ∉ x.all) (hn : x.n < n) : (ins n seed s' x k).2 = [] := by
  have hal : (x.fr0 k).all = k :: x.all := by rw [fr0_new hk]; rfl
  have hyn : (x.fr0 k).n = x.n + 1 := by rw [← all_n, hal, List.length_cons, all_n]
  unfold ins
  by_cases c : (x.fr0 k).a.length ≤ Wn n
  · rw [if_pos c]
  · rw [if_neg c, if_pos (by omega)]
/-- A policy of at most n keys, that keeps those of K. -/
def PR (n : Nat) (p : policy_Policy) (K : List Str) : Prop :=
  (p.kind = 1 ∧ ∃ a x, p.a = some a ∧ AR n a x ∧ K.Perm x.kept) ∨ (p.kind = 2 ∧ ∃ seed t s x, p.t = some t ∧ TR n seed t s x ∧ K.Perm x.all)
theorem rm_pm {l m : List Str} (h : l.Perm m) (k : Str) : (TL.rm l k).Perm (TL.rm m k) := h.filter _
section
variable {n : Nat} {p : policy_Policy} {K : List Str}
theorem PR.nd (h : PR n p K) : K.Nodup := by
  rcases h with ⟨_, a, x, _, h, hp⟩ | ⟨_, seed, t, s, x, _, h, hp⟩
  · exact hp.nodup_iff.2 h.knd
  · exact hp.nodup_iff.2 h.nd
theorem PR.le (h : PR n p K) : K.length ≤ n := by
  rcases h with ⟨_, a, x, _, h, hp⟩ | ⟨_, seed, t, s, x, _, h, hp⟩
  · rw [hp.length_eq]; unfold AL.kept; have := h.b1; simp; omega
  · rw [hp.length_eq, all_n]; exact h.bn
theorem PR.kl (h : PR n p K) : ∀ k ∈ K, k.length ≤ 64 := by
  rcases h with ⟨_, a, x, _, h, hp⟩ | ⟨_, seed, t, s, x, _, h, hp⟩
  · exact fun k hk => h.kl k (mem_all.2 ((mem_kept.1 (hp.subset hk)).imp id .inl))
  · exact fun k hk => h.kl k (hp.subset hk)
theorem PR.n1 (h : PR n p K) : 1 ≤ n ∧ n ≤ 1000 := by
  rcases h with ⟨_, a, x, _, h, hp⟩ | ⟨_, seed, t, s, x, _, h, hp⟩
  · exact ⟨h.n1, h.n2⟩
  · exact ⟨h.n1, h.n2⟩
theorem PR.perm (h : PR n p K) {K' : List Str} (hp : K'.Perm K) : PR n p K' := by
  rcases h with ⟨h1, a, x, h2, h, hq⟩ | ⟨h1, seed, t, s, x, h2, h, hq⟩
  · exact .inl ⟨h1, a, x, h2, h, hp.trans hq⟩
  · exact .inr ⟨h1, seed, t, s, x, h2, h, hp.trans hq⟩
theorem k1f {k : Int} (h : k = 2) : ¬ (k == 1) = true := by subst h; decide
theorem PR.remove (h : PR n p K) (k : Str) : ∃ b p', policy_Policy_Remove p k = some (b, p') ∧ PR n p' (TL.rm K k) := by
  unfold policy_Policy_Remove policy_Policy_Kind
  rcases h with ⟨h1, a, x, h2, h, hp⟩ | ⟨h1, seed, t, s, x, h2, h, hp⟩
  · obtain ⟨a', e, h'⟩ := h.remove k
    rw [if_pos (by rw [h1]; rfl), h2, om_some, e, Option.bind_some]
    exact ⟨_, _, rfl, .inl ⟨h1, a', _, rfl, h', by rw [drop_kept]; exact rm_pm hp k⟩⟩
  · obtain ⟨t', e, h'⟩ := h.Remove k
    rw [if_neg (k1f h1), if_pos (by rw [h1]; rfl), h2, om_some, e, Option.bind_some]
    exact ⟨_, _, rfl, .inr ⟨h1, seed, t', s, _, rfl, h', by rw [drop_all]; exact rm_pm hp k⟩⟩
theorem PR.miss (h : PR n p K) {k : Str} (hk : k.length ≤ 64) : ∃ p', policy_Policy_Miss p k = some p' ∧ PR n p' K := by
  have hh := h
  unfold policy_Policy_Miss policy_Policy_Kind
  rcases h with ⟨h1, a, x, h2, h, hp⟩ | ⟨h1, seed, t, s, x, h2, h, hp⟩
  · rw [if_neg (by rw [h1]; decide)]
    exact ⟨p, rfl, hh⟩
  · rw [if_pos (by rw [h1]; rfl), h2, om_some, if_pos (by dsimp only; rw [h1]; rfl), h.Has, Option.bind_some]
    by_cases hx : k ∈ x.all
    · rw [if_neg (by simp [hx])]
      exact ⟨p, rfl, hh⟩
    · obtain ⟨t', e, h'⟩ := h.Miss hk
      rw [if_pos (by simp [hx]), e, Option.bind_some]
      exact ⟨_, rfl, .inr ⟨h1, seed, t', _, x, rfl, h', hp⟩⟩
theorem PR.touch (h : PR n p K) {k : Str} (hk : k ∈ K) : ∃ p', policy_Policy_Touch p k = some (true, p') ∧ PR n p' K := by
  unfold policy_Policy_Touch policy_Policy_Kind
  rcases h with ⟨h1, a, x, h2, h, hp⟩ | ⟨h1, seed, t, s, x, h2, h, hp⟩
  · obtain ⟨a', x', e, h', q⟩ := h.touch (hp.subset hk)
    rw [if_pos (by rw [h1]; rfl), h2, om_some, e, Option.bind_some]
    exact ⟨_, rfl, .inl ⟨h1, a', x', rfl, h', hp.trans q.symm⟩⟩
  · obtain ⟨t', e, h', q⟩ := h.touch (hp.subset hk)
    rw [if_neg (k1f h1), if_pos (by rw [h1]; rfl), h2, om_some, e, Option.bind_some]
    exact ⟨_, rfl, .inr ⟨h1, seed, t', _, _, rfl, h', hp.trans q.symm⟩⟩
theorem PR.insert_yes (h : PR n p K) {k : Str} (hk : k ∈ K) : ∃ p', policy_Policy_Insert p k = some ([], p') ∧ PR n p' K := by
  unfold policy_Policy_Insert policy_Policy_Kind
  rcases h with ⟨h1, a, x, h2, h, hp⟩ | ⟨h1, seed, t, s, x, h2, h, hp⟩
  · obtain ⟨a', x', e, h', q⟩ := h.insert_yes (hp.subset hk)
    rw [if_pos (by rw [h1]; rfl), h2, om_some, e, Option.bind_some]
    exact ⟨_, rfl, .inl ⟨h1, a', x', rfl, h', hp.trans q.symm⟩⟩
  · obtain ⟨t', e, h', q⟩ := h.insert_yes (hp.subset hk)
    rw [if_neg (k1f h1), if_pos (by rw [h1]; rfl), h2, om_some, e, Option.bind_some]
    exact ⟨_, rfl, .inr ⟨h1, seed, t', _, _, rfl, h', hp.trans q.symm⟩⟩
/-- What goes for a key that was not kept. -/
def Goes (k : Str) (K K' g : List Str) : Prop := (g = [] ∧ K' = k :: K) ∨ ∃ o, g = [o] ∧ o ∈ k :: K ∧ K' = TL.rm (k :: K) o
theorem PR.insert (h : PR n p K) {k : Str} (hk : k ∉ K) (h64 : k.length ≤ 64) : ∃ g p' K', policy_Policy_Insert p k = some (g, p') ∧ PR n p' K' ∧ Goes k K K' g ∧ (K.length < n → g = []) := by
  unfold policy_Policy_Insert policy_Policy_Kind
  rcases h with ⟨h1, a, x, h2, h, hp⟩ | ⟨h1, seed, t, s, x, h2, h, hp⟩
  · obtain ⟨g, a', x', e, h', q⟩ := h.insert (fun z => hk (hp.symm.subset z)) h64
    rw [if_pos (by rw [h1]; rfl), h2, om_some, e, Option.bind_some]
    rcases q with ⟨rfl, q⟩ | ⟨o, rfl, q1, q2⟩
    · exact ⟨_, _, k :: K, rfl, .inl ⟨h1, a', x', rfl, h', (hp.cons k).trans q.symm⟩, .inl ⟨rfl, rfl⟩, fun _ => rfl⟩
    · have ho : o ∈ K := hp.symm.subset q1.1
      have hne : ¬ k = o := fun z => hk (z ▸ ho)
      have e2 : TL.rm (k :: K) o = k :: TL.rm K o := by
        unfold TL.rm; rw [List.filter_cons, if_pos (by simp [hne])]
      exact ⟨_, _, TL.rm (k :: K) o, rfl, .inl ⟨h1, a', x', rfl, h', by rw [e2]; exact ((rm_pm hp o).cons k).trans q2.symm⟩, .inr ⟨o, rfl, List.mem_cons_of_mem _ ho, rfl⟩, fun z => by have := hp.length_eq; have := q1.2; omega⟩
  · obtain ⟨t', e, h', q⟩ := h.insert_no (fun z => hk (hp.symm.subset z)) h64
    rw [if_neg (k1f h1), if_pos (by rw [h1]; rfl), h2, om_some, e, Option.bind_some]
    rcases q with ⟨q0, q⟩ | ⟨o, q0, q1, q2⟩
    · exact ⟨_, _, k :: K, rfl, .inr ⟨h1, seed, t', _, _, rfl, h', (hp.cons k).trans q.symm⟩, .inl ⟨q0, rfl⟩, fun _ => q0⟩
    · exact ⟨_, _, TL.rm (k :: K) o, rfl, .inr ⟨h1, seed, t', _, _, rfl, h', (rm_pm (hp.cons k) o).trans q2.symm⟩, .inr ⟨o, q0, (hp.cons k).symm.subset q1, rfl⟩, fun z => ins_room h (fun z => hk (hp.symm.subset z)) (by have := hp.length_eq; rw [all_n] at this; omega)⟩
theorem evk_mem {x : TL} {o : Str} (h : evk x = some o) : o ∈ x.all := by
  unfold evk at h
  unfold TL.all
  cases e1 : x.b.getLast? with
  | some k => rw [e1] at h; cases h; have := List.mem_of_getLast? e1; simp [this]
  | none =>
    rw [e1] at h; dsimp only at h
    cases e2 : x.a.getLast? with
    | some k => rw [e2] at h; cases h; have := List.mem_of_getLast? e2; simp [this]
    | none => rw [e2] at h; have := List.mem_of_getLast? h; simp [this]
theorem PR.evict (h : PR n p K) : (K = [] ∧ ∃ p', policy_Policy_Evict p = some ([], false, p') ∧ PR n p' K) ∨ ∃ o p', policy_Policy_Evict p = some (o, true, p') ∧ o ∈ K ∧ PR n p' (TL.rm K o) := by
  unfold policy_Policy_Evict policy_Policy_Kind
  rcases h with ⟨h1, a, x, h2, h, hp⟩ | ⟨h1, seed, t, s, x, h2, h, hp⟩
  · rw [if_pos (by rw [h1]; rfl), h2, om_some]
    rcases h.evict with ⟨e0, e⟩ | ⟨o, a', x', e, h', om, q⟩
    · rw [e, Option.bind_some]
      refine .inl ⟨?_, _, rfl, .inl ⟨h1, a, x, rfl, h, hp⟩⟩
      rw [e0] at hp; exact hp.eq_nil
    · rw [e, Option.bind_some]
      exact .inr ⟨o, _, rfl, hp.symm.subset om, .inl ⟨h1, a', x', rfl, h', (rm_pm hp o).trans q.symm⟩⟩
  · rw [if_neg (k1f h1), if_pos (by rw [h1]; rfl), h2, om_some]
    obtain ⟨t', x', e, h', ex⟩ := h.Evict
    rw [e]
    cases ek : evk x with
    | none =>
      rw [ek] at ex; dsimp only at ex
      rw [Option.bind_some]
      have := evk_none ek
      refine .inl ⟨?_, _, rfl, .inr ⟨h1, seed, t', s, x', rfl, h', by rw [ex]; exact hp⟩⟩
      rw [this] at hp; exact hp.eq_nil
    | some o =>
      rw [ek] at ex; dsimp only at ex
      rw [Option.bind_some]
      exact .inr ⟨o, _, rfl, hp.symm.subset (evk_mem ek), .inr ⟨h1, seed, t', s, x', rfl, h', by rw [ex, drop_all]; exact rm_pm hp o⟩⟩
end
theorem new_p1 (n : Nat) (seed : UInt64) (h1 : 1 ≤ n) (h2 : n ≤ 1000) : ∃ p, policy_New 1 (n : Int) seed = some (some p, 0) ∧ PR n p [] := by
  obtain ⟨a, e, h⟩ := new_a n h1 h2
  unfold policy_New
  rw [if_pos (by rfl), e, Option.bind_some, Option.bind_some, if_neg (by simp)]
  exact ⟨_, rfl, .inl ⟨rfl, a, _, rfl, h, List.Perm.refl _⟩⟩
theorem new_p2 (n : Nat) (seed : UInt64) (h1 : 1 ≤ n) (h2 : n ≤ 1000) : ∃ p, policy_New 2 (n : Int) seed = some (some p, 0) ∧ PR n p [] := by
  obtain ⟨t, s, e, h, _⟩ := new_t n seed h1 h2
  unfold policy_New
  rw [if_neg (by decide), if_pos (by rfl), e, Option.bind_some, Option.bind_some, Option.bind_some, if_neg (by simp)]
  exact ⟨_, rfl, .inr ⟨rfl, seed, t, s, _, rfl, h, List.Perm.refl _⟩⟩
end Go.Proofs.YtpanhdnglicknaaGreat.Pure
