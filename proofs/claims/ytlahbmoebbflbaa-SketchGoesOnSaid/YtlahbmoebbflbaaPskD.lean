import Derived.Test.YtlahbmoebbflbaaW4
import Derived.Test.YtlahbmoebbflbaaPmixA
import Derived.Test.YtlahbmoebbflbaaPskA
import Derived.Test.YtlahbmoebbflbaaPskB
import Derived.Test.YtlahbmoebbflbaaPskC
import Derived.Test.YtlahbmoebbflbaaPskF
import Derived.Test.YtlahbmoebbflbaaPskN
set_option linter.unusedVariables false
set_option linter.unusedSectionVars false
set_option linter.unusedSimpArgs false
set_option maxRecDepth 100000
set_option maxHeartbeats 8000000

namespace Go.Proofs.Ytlahbmoebbflbaa.Pure
open Go Go.Proofs.Ytlahbmoebbflbaa.Hw Go.Proofs.Ytlahbmoebbflbaa

/-! a key is never said to be seen less often than it was -/
def floor1 (m : Nat) : Nat := min 15 (m - 1)
structure Cnt (s : Sk) (p : Ps) (m : Nat) : Prop where
  door : 1 ≤ m → s.d.getD p.p4 false = true
  a : floor1 m ≤ (s.a.getD p.p0 0).toNat
  b : floor1 m ≤ (s.b.getD p.p1 0).toNat
  c : floor1 m ≤ (s.c.getD p.p2 0).toNat
  e : floor1 m ≤ (s.e.getD p.p3 0).toNat
theorem getD_set_ne {α : Type} (l : List α) (i j : Nat) (x z : α) (h : i ≠ j) : (l.set i x).getD j z = l.getD j z := by
  rw [List.getD_eq_getElem?_getD, List.getD_eq_getElem?_getD, List.getElem?_set_ne h]
theorem getD_set_eq {α : Type} (l : List α) (i : Nat) (x z : α) (h : i < l.length) : (l.set i x).getD i z = x := by
  rw [List.getD_eq_getElem?_getD, List.getElem?_set_self h]; rfl
theorem up_ge (r : List UInt8) (q p : Nat) (m : UInt8) : (r.getD p 0).toNat ≤ ((up r q m).getD p 0).toNat := by
  unfold up
  split
  · rename_i h
    by_cases hq : q < r.length
    · by_cases e : q = p
      · subst e
        rw [getD_set_eq _ _ _ _ hq, h.1, UInt8.toNat_add]
        have e1 : (1 : UInt8).toNat = 1 := by decide
        have e15 : (15 : UInt8).toNat = 15 := by decide
        have := UInt8.lt_iff_toNat_lt.1 h.2
        omega
      · rw [getD_set_ne _ _ _ _ _ e]; exact Nat.le_refl _
    · rw [List.set_eq_of_length_le (by omega)]; exact Nat.le_refl _
  · exact Nat.le_refl _
theorem mn_le_l (x n : UInt8) : (mn x n).toNat ≤ x.toNat := by
  unfold mn
  split
  · exact Nat.le_refl _
  · rename_i h; have : ¬ x.toNat < n.toNat := fun q => h (UInt8.lt_iff_toNat_lt.2 q)
    omega
theorem mn_le_r (x n : UInt8) : (mn x n).toNat ≤ n.toNat := by
  unfold mn
  split
  · rename_i h; have := UInt8.lt_iff_toNat_lt.1 h; omega
  · exact Nat.le_refl _
theorem mn_ge (x n : UInt8) (k : Nat) (h1 : k ≤ x.toNat) (h2 : k ≤ n.toNat) : k ≤ (mn x n).toNat := by
  unfold mn; split <;> assumption
theorem least_le (s : Sk) (p : Ps) : (s.least p).toNat ≤ (s.a.getD p.p0 0).toNat ∧ (s.least p).toNat ≤ (s.b.getD p.p1 0).toNat ∧ (s.least p).toNat ≤ (s.c.getD p.p2 0).toNat ∧ (s.least p).toNat ≤ (s.e.getD p.p3 0).toNat ∧ (s.least p).toNat ≤ 15 := by
  unfold Sk.least
  have q1 := mn_le_l (s.e.getD p.p3 0) (mn (s.c.getD p.p2 0) (mn (s.b.getD p.p1 0) (mn (s.a.getD p.p0 0) 15)))
  have q2 := mn_le_r (s.e.getD p.p3 0) (mn (s.c.getD p.p2 0) (mn (s.b.getD p.p1 0) (mn (s.a.getD p.p0 0) 15)))
  have q3 := mn_le_l (s.c.getD p.p2 0) (mn (s.b.getD p.p1 0) (mn (s.a.getD p.p0 0) 15))
  have q4 := mn_le_r (s.c.getD p.p2 0) (mn (s.b.getD p.p1 0) (mn (s.a.getD p.p0 0) 15))
  have q5 := mn_le_l (s.b.getD p.p1 0) (mn (s.a.getD p.p0 0) 15)
  have q6 := mn_le_r (s.b.getD p.p1 0) (mn (s.a.getD p.p0 0) 15)
  have q7 := mn_le_l (s.a.getD p.p0 0) 15
  have q8 := mn_le_r (s.a.getD p.p0 0) 15
  have e15 : (15 : UInt8).toNat = 15 := by decide
  omega
theorem least_ge (s : Sk) (p : Ps) (m : Nat) (h : Cnt s p m) : floor1 m ≤ (s.least p).toNat := by
  unfold Sk.least
  have e15 : (15 : UInt8).toNat = 15 := by decide
  exact mn_ge _ _ _ h.e (mn_ge _ _ _ h.c (mn_ge _ _ _ h.b (mn_ge _ _ _ h.a (by unfold floor1; omega))))
theorem up_own (r : List UInt8) (p : Nat) (m : UInt8) (k : Nat) (hp : p < r.length) (hm : m.toNat ≤ (r.getD p 0).toNat) (h : floor1 k ≤ m.toNat) (hk : 1 ≤ k) : floor1 (k + 1) ≤ ((up r p m).getD p 0).toNat := by
  have e1 : (1 : UInt8).toNat = 1 := by decide
  have e15 : (15 : UInt8).toNat = 15 := by decide
  unfold floor1 at *
  unfold up
  split
  · rename_i q
    have := UInt8.lt_iff_toNat_lt.1 q.2
    rw [getD_set_eq _ _ _ _ hp, UInt8.toNat_add]
    omega
  · rename_i q
    by_cases e : r.getD p 0 = m
    · have : ¬ m < 15 := fun x => q ⟨e, x⟩
      have : ¬ m.toNat < 15 := fun x => this (UInt8.lt_iff_toNat_lt.2 (by omega))
      omega
    · have : (r.getD p 0).toNat ≠ m.toNat := fun x => e (UInt8.toNat_inj.1 x)
      omega
theorem cnt_other (s : Sk) (p q : Ps) (m : Nat) (h : Cnt s p m) : Cnt (s.add q) p m := by
  unfold Sk.add
  split
  · exact ⟨h.door, Nat.le_trans h.a (up_ge _ _ _ _), Nat.le_trans h.b (up_ge _ _ _ _), Nat.le_trans h.c (up_ge _ _ _ _), Nat.le_trans h.e (up_ge _ _ _ _)⟩
  · refine ⟨fun hm => ?_, h.a, h.b, h.c, h.e⟩
    show (s.d.set q.p4 true).getD p.p4 false = true
    by_cases e : q.p4 = p.p4
    · have := h.door hm
      rename_i hq
      rw [e] at hq
      exact absurd this hq
    · rw [getD_set_ne _ _ _ _ _ e]; exact h.door hm
theorem cnt_own {w : Nat} {seed : UInt64} {key : Str} (s : Sk) (p : Ps) (m : Nat) (hs : s.ok w) (hp : Pk w seed key p) (h : Cnt s p m) : Cnt (s.add p) p (m + 1) := by
  obtain ⟨q1, q2, q3, q4, q5⟩ := least_le s p
  have q6 := least_ge s p m h
  unfold Sk.add
  split
  · rename_i hd
    by_cases hm : 1 ≤ m
    · exact ⟨fun _ => hd, up_own _ _ _ _ (hs.ha ▸ hp.k0.lt) q1 q6 hm, up_own _ _ _ _ (hs.hb ▸ hp.k1.lt) q2 q6 hm, up_own _ _ _ _ (hs.hc ▸ hp.k2.lt) q3 q6 hm, up_own _ _ _ _ (hs.he ▸ hp.k3.lt) q4 q6 hm⟩
    · have z : floor1 (m + 1) = 0 := by unfold floor1; omega
      exact ⟨fun _ => hd, by omega, by omega, by omega, by omega⟩
  · rename_i hd
    have hm : m = 0 := by
      rcases Nat.eq_zero_or_pos m with e | e
      · exact e
      · exact absurd (h.door e) hd
    subst hm
    have z : floor1 (0 + 1) = 0 := rfl
    exact ⟨fun _ => getD_set_eq _ _ _ _ (hs.hd ▸ hp.k4.lt), by omega, by omega, by omega, by omega⟩
theorem cnt_seen (s : Sk) (p : Ps) (m : Nat) (h : Cnt s p m) : min 16 m ≤ s.seen p := by
  have q6 := least_ge s p m h
  unfold Sk.seen
  unfold floor1 at q6
  by_cases hm : 1 ≤ m
  · rw [if_pos (h.door hm)]; omega
  · omega
theorem put_add (s : Sk) (p : Ps) (w : Nat) (h : s.n + 1 < 10 * w) (hs : s.ok w) : s.put w p = s.add p := by
  obtain ⟨_, _, _, _, _, ln⟩ := add_lens (w := w) hs (p := p)
  unfold Sk.put
  rw [if_neg (by omega)]
theorem least_loop (l : List Str) (key kk : Str) (hkk : hawthornlaw05_few key = some kk) (seed : UInt64) (p : Ps) (hp : Pk 64 seed kk p) : ∀ (f : Nat) (s : Sk) (m i : Nat), f = l.length - i + 1 → i ≤ l.length → i ≤ 300 → s.n = i → m ≤ i → s.ok 64 → Cnt s p m →
    ∃ s' m', hawthornlaw05_SketchLeast_l1 l key f (some (s.C 64 seed)) (m : Int) (i : Int) = some (some (s'.C 64 seed), ((m' : Nat) : Int)) ∧ s'.ok 64 ∧ Cnt s' p m' := by
  intro f
  induction f with
  | zero => intro s m i h; omega
  | succ f ih =>
    intro s m i hf hi hi3 hn hm hs hc
    unfold hawthornlaw05_SketchLeast_l1
    by_cases h : i < l.length ∧ i < 300
    · have e : (decide ((i : Int) < (l.length : Int)) && decide ((i : Int) < 300)) = true := by simp; omega
      obtain ⟨r, hr, hrl⟩ := few_ex l[i]
      have ei : i64 ((i : Int) + 1) = ((i + 1 : Nat) : Int) := by rw [i64_id] <;> omega
      have em : i64 ((m : Int) + 1) = ((m + 1 : Nat) : Int) := by rw [i64_id] <;> omega
      rw [if_pos e, gN h.1, Option.bind_some, hr, Option.bind_some, om_some]
      by_cases hk : r = kk
      · subst hk
        have hput := put_add s p 64 (by omega) hs
        have hok : (s.add p).ok 64 := hput ▸ put_ok (by decide) hs
        have hn' : (s.add p).n = i + 1 := by rw [(add_lens (w := 64) hs (p := p)).2.2.2.2.2, hn]
        rw [Add_c (by decide) (by decide) hs hp, Option.bind_some, hkk, Option.bind_some, if_pos (beq_self_eq_true r), Option.bind_some, em, ei, hput]
        exact ih (s.add p) (m + 1) (i + 1) (by omega) (by omega) (by omega) hn' (by omega) hok (cnt_own s p m hs hp hc)
      · obtain ⟨q, hq⟩ := pk_ex 64 seed r (by decide) (by decide) hrl
        have hput := put_add s q 64 (by omega) hs
        have hok : (s.add q).ok 64 := hput ▸ put_ok (by decide) hs
        have hn' : (s.add q).n = i + 1 := by rw [(add_lens (w := 64) hs (p := q)).2.2.2.2.2, hn]
        rw [Add_c (by decide) (by decide) hs hq, Option.bind_some, hkk, Option.bind_some, if_neg (by rw [beq_iff_eq]; exact hk), Option.bind_some, ei, hput]
        exact ih (s.add q) m (i + 1) (by omega) (by omega) (by omega) hn' (by omega) hok (cnt_other s p q m hc)
    · have e : ¬ (decide ((i : Int) < (l.length : Int)) && decide ((i : Int) < 300)) = true := by simp; omega
      rw [if_neg e]
      exact ⟨s, m, rfl, hs, hc⟩
theorem SketchLeast (seed : UInt64) (l : List Str) (key : Str) {p r : Prop} (_ : p) (_ : l.length * 16 ≤ reachBytes) (_ : r) : hawthornlaw05_SketchLeast seed l key = some true := by
  obtain ⟨kk, hkk, hkl⟩ := few_ex key
  obtain ⟨p, hp⟩ := pk_ex 64 seed kk (by decide) (by decide) hkl
  obtain ⟨s, m, h1, h2, h3⟩ := least_loop l key kk hkk seed p hp (((l.length : Int) - 0).toNat + 1) _ 0 0 (by omega) (by omega) (by omega) rfl (by omega) (zero_ok 64 (by decide)) ⟨by omega, Nat.zero_le _, Nat.zero_le _, Nat.zero_le _, Nat.zero_le _⟩
  have hz := cnt_seen s p m h3
  have hn : sketch_New 64 seed = _ := new_c 64 seed (by decide) (by decide)
  unfold hawthornlaw05_SketchLeast
  rw [hn, Option.bind_some, awake_true, Option.bind_some, if_neg (show ¬ (!true || ((0 : Int) != 0)) = true by decide)]
  have h1' : hawthornlaw05_SketchLeast_l1 l key (((l.length : Int) - 0).toNat + 1) _ 0 0 = _ := h1
  rw [h1', Option.bind_some]
  dsimp only
  have e16 : (if decide ((16 : Int) < (m : Int)) = true then some (16 : Int) else some (m : Int)) = some ((min 16 m : Nat) : Int) := by
    by_cases h : 16 < m
    · rw [if_pos (by rw [decide_eq_true_eq]; omega), Nat.min_eq_left (by omega)]; rfl
    · rw [if_neg (by rw [decide_eq_true_eq]; omega), Nat.min_eq_right (by omega)]
  rw [e16, Option.bind_some, hkk, Option.bind_some, om_some, Seen_c (by decide) (by decide) h2 hp, Option.bind_some]
  generalize s.seen p = a at hz ⊢
  generalize min 16 m = b at hz ⊢
  rw [decide_eq_true (by omega)]
end Go.Proofs.Ytlahbmoebbflbaa.Pure
