import Derived.Test.YtlahbmoebbflbaaW4
import Derived.Test.YtlahbmoebbflbaaPmixA
import Derived.Test.YtlahbmoebbflbaaPskA
import Derived.Test.YtlahbmoebbflbaaPskB
import Derived.Test.YtlahbmoebbflbaaPskC
import Derived.Test.YtlahbmoebbflbaaPskF
import Derived.Test.YtlahbmoebbflbaaPskN
import Derived.Test.YtlahbmoebbflbaaPskD
import Derived.Test.YtlahbmoebbflbaaPwireC
import Derived.Test.YtlahbmoebbflbaaPskE
set_option linter.unusedVariables false
set_option linter.unusedSectionVars false
set_option linter.unusedSimpArgs false
set_option maxRecDepth 100000
set_option maxHeartbeats 8000000

namespace Go.Proofs.Ytlahbmoebbflbaa.Pure
open Go Go.Proofs.Ytlahbmoebbflbaa.Hw Go.Proofs.Ytlahbmoebbflbaa

theorem adds_loop (l : List Str) (w : Nat) (h1 : 1 ≤ w) (h2 : w ≤ 32) (seed : UInt64) : ∀ (f i : Nat) (s : Sk), f = l.length - i + 1 → i ≤ l.length → i ≤ 200 → s.ok w →
    ∃ s' : Sk, hawthornlaw05_SketchAdds_l1 l f (some (s.C w seed)) (i : Int) (s.M w seed) = some (.inl (some (s'.C w seed), s'.M w seed)) ∧ s'.ok w := by
  intro f
  induction f with
  | zero => intro i s h; omega
  | succ f ih =>
    intro i s hf hi hi3 hs
    unfold hawthornlaw05_SketchAdds_l1
    by_cases h : i < l.length ∧ i < 200
    · have e : (decide ((i : Int) < (l.length : Int)) && decide ((i : Int) < 200)) = true := by simp; omega
      obtain ⟨r, hr, hrl⟩ := few_ex l[i]
      obtain ⟨q, hq⟩ := pk_ex w seed r h1 (by omega) hrl
      have hok := put_ok (p := q) h1 hs
      have ei : i64 ((i : Int) + 1) = ((i + 1 : Nat) : Int) := by rw [i64_id] <;> omega
      rw [if_pos e, gN h.1, Option.bind_some, hr, Option.bind_some, om_some, Seen_c h1 (by omega) hs hq, Option.bind_some, Seen_m h1 (by omega) hs hq, Option.bind_some, if_neg (by simp)]
      rw [Add_c h1 (by omega) hs hq, Option.bind_some, Add_m h1 (by omega) hs hq, Option.bind_some, Seen_c h1 (by omega) hok hq, Option.bind_some, Seen_m h1 (by omega) hok hq, Option.bind_some, if_neg (by simp)]
      have ea : (sketch_Sketch_Added ((s.put w q).C w seed) != ((s.put w q).M w seed).Added) = false := by unfold sketch_Sketch_Added; simp
      rw [ea, Option.bind_some, if_neg (by decide), ei]
      exact ih (i + 1) (s.put w q) (by omega) (by omega) (by omega) hok
    · have e : ¬ (decide ((i : Int) < (l.length : Int)) && decide ((i : Int) < 200)) = true := by simp; omega
      rw [if_neg e]
      exact ⟨s, rfl, hs⟩
theorem SketchAdds (n : Int) (seed : UInt64) (l : List Str) {p q : Prop} (_ : p) (_ : q) (_ : l.length * 16 ≤ reachBytes) : hawthornlaw05_SketchAdds n seed l = some true := by
  obtain ⟨w, s, h0, h1, h2, hs⟩ := both_ex n seed
  obtain ⟨s', h3, h4⟩ := adds_loop l w h1 h2 seed (((l.length : Int) - 0).toNat + 1) 0 s (by omega) (by omega) (by omega) hs
  unfold hawthornlaw05_SketchAdds
  rw [h0, Option.bind_some, awake_true, Option.bind_some, if_neg (show ¬ (!true || !true) = true by decide)]
  have h3' : hawthornlaw05_SketchAdds_l1 l (((l.length : Int) - 0).toNat + 1) _ 0 _ = _ := h3
  rw [h3', Option.bind_some]
  dsimp only
  rw [om_some, Exp_c (by omega) h4, Option.bind_some, Put_m (by omega) h4, Option.bind_some, beq_self_eq_true]
theorem age_keeps {w : Nat} {s : Sk} (h1 : 1 ≤ w) (hs : s.ok w) : (s.age w).ok w := by
  have := hs.hn
  exact age_ok hs.ha hs.hb hs.hc hs.he (by omega) h1 hs.xa hs.xb hs.xc hs.xe
theorem ages_loop (l : List Str) (w : Nat) (h1 : 1 ≤ w) (h2 : w ≤ 32) (seed : UInt64) : ∀ (f i : Nat) (s : Sk), f = l.length - i + 1 → i ≤ l.length → i ≤ 100 → s.ok w →
    ∃ s' : Sk, hawthornlaw05_SketchAges_l3 l f (some (s.C w seed)) (i : Int) (s.M w seed) = some (some (s'.C w seed), s'.M w seed) ∧ s'.ok w := by
  intro f
  induction f with
  | zero => intro i s h; omega
  | succ f ih =>
    intro i s hf hi hi3 hs
    unfold hawthornlaw05_SketchAges_l3
    by_cases h : i < l.length ∧ i < 100
    · have e : (decide ((i : Int) < (l.length : Int)) && decide ((i : Int) < 100)) = true := by simp; omega
      obtain ⟨r, hr, hrl⟩ := few_ex l[i]
      obtain ⟨q, hq⟩ := pk_ex w seed r h1 (by omega) hrl
      have hok := put_ok (p := q) h1 hs
      have ei : i64 ((i : Int) + 1) = ((i + 1 : Nat) : Int) := by rw [i64_id] <;> omega
      rw [if_pos e, gN h.1, Option.bind_some, hr, Option.bind_some, om_some]
      rw [Add_c h1 (by omega) hs hq, Option.bind_some, Add_m h1 (by omega) hs hq, Option.bind_some, ei]
      exact ih (i + 1) (s.put w q) (by omega) (by omega) (by omega) hok
    · have e : ¬ (decide ((i : Int) < (l.length : Int)) && decide ((i : Int) < 100)) = true := by simp; omega
      rw [if_neg e]
      exact ⟨s, rfl, hs⟩
theorem ages_loop2 (m : Int) (k : Nat) (hm : iand m 7 = (k : Int)) (hk : k ≤ 7) (w : Nat) (h1 : 1 ≤ w) (h2 : w ≤ 32) (seed : UInt64) : ∀ (f i : Nat) (s : Sk), f = k - i + 1 → i ≤ k → s.ok w →
    ∃ s' : Sk, hawthornlaw05_SketchAges_l2 m f (some (s.C w seed)) (i : Int) (s.M w seed) = some (some (s'.C w seed), s'.M w seed) ∧ s'.ok w := by
  intro f
  induction f with
  | zero => intro i s h; omega
  | succ f ih =>
    intro i s hf hi hs
    unfold hawthornlaw05_SketchAges_l2
    rw [hm]
    by_cases h : i < k
    · have ei : i64 ((i : Int) + 1) = ((i + 1 : Nat) : Int) := by rw [i64_id] <;> omega
      rw [if_pos (by rw [decide_eq_true_eq]; omega), om_some, Age_c h1 (by omega) hs, Option.bind_some, Age_m h1 (by omega) hs, Option.bind_some, ei]
      exact ih (i + 1) (s.age w) (by omega) (by omega) (age_keeps h1 hs)
    · rw [if_neg (by rw [decide_eq_true_eq]; omega)]
      exact ⟨s, rfl, hs⟩
theorem SketchAges (n : Int) (l : List Str) (m : Int) {p q t : Prop} (_ : p) (_ : q) (_ : l.length * 16 ≤ reachBytes) (_ : t) : hawthornlaw05_SketchAges n l m = some true := by
  obtain ⟨w, s, h0, h1, h2, hs⟩ := both_ex n 5
  obtain ⟨s', h3, h4⟩ := ages_loop l w h1 h2 5 (((l.length : Int) - 0).toNat + 1) 0 s (by omega) (by omega) (by omega) hs
  obtain ⟨k, hk, hk2⟩ := iand_le m 7 (by decide)
  have ek : iand m 7 = (k : Int) := hk
  obtain ⟨s2, h5, h6⟩ := ages_loop2 m k ek hk2 w h1 h2 5 (((k : Int) - 0).toNat + 1) 0 s' (by omega) (by omega) h4
  unfold hawthornlaw05_SketchAges
  rw [h0, Option.bind_some, awake_true, Option.bind_some, if_neg (show ¬ (!true || !true) = true by decide)]
  have h3' : hawthornlaw05_SketchAges_l3 l (((l.length : Int) - 0).toNat + 1) _ 0 _ = _ := h3
  rw [h3', Option.bind_some]
  dsimp only
  have h5' : hawthornlaw05_SketchAges_l2 m (((k : Int) - 0).toNat + 1) _ 0 _ = _ := h5
  rw [ek, h5', Option.bind_some]
  dsimp only
  rw [om_some, Exp_c (by omega) h6, Option.bind_some, Put_m (by omega) h6, Option.bind_some, beq_self_eq_true]
end Go.Proofs.Ytlahbmoebbflbaa.Pure
