import Derived.Test.YtlahbmoebbflbaaW6
import Derived.Test.YtlahbmoebbflbaaPmixA
import Derived.Test.YtlahbmoebbflbaaPskA
import Derived.Test.YtlahbmoebbflbaaPskB
import Derived.Test.YtlahbmoebbflbaaPskC
import Derived.Test.YtlahbmoebbflbaaPskP
import Derived.Test.YtlahbmoebbflbaaPringA
import Derived.Test.YtlahbmoebbflbaaPringB
import Derived.Test.YtlahbmoebbflbaaPringC
import Derived.Test.YtlahbmoebbflbaaPringD
import Derived.Test.YtlahbmoebbflbaaPringE
import Derived.Test.YtlahbmoebbflbaaPringF
import Derived.Test.YtlahbmoebbflbaaPtinyA
import Derived.Test.YtlahbmoebbflbaaPtinyB
import Derived.Test.YtlahbmoebbflbaaPtinyC
import Derived.Test.YtlahbmoebbflbaaPtinyK
import Derived.Test.YtlahbmoebbflbaaPtinyN
import Derived.Test.YtlahbmoebbflbaaPringK
set_option linter.unusedVariables false
set_option linter.unusedSectionVars false
set_option linter.unusedSimpArgs false
set_option maxRecDepth 100000
set_option maxHeartbeats 8000000

namespace Go.Proofs.Ytlahbmoebbflbaa.Pure
open Go Go.Proofs.Ytlahbmoebbflbaa.Hw Go.Proofs.Ytlahbmoebbflbaa

section
variable {n : Nat} {seed : UInt64} {t : tiny_Tiny} {s : Sk} {x : TL}
/-- All three lists. -/
theorem TR.Lists (h : TR n seed t s x) : tiny_Tiny_Lists t = some x.L := by
  obtain ⟨r, hr, hR⟩ := h.rg
  have hbn := h.bn
  have hn := h.n2
  unfold TL.n at hbn
  have k0 := hR.Keys (i := 0) (l := x.a) rfl
  have k1 := hR.Keys (i := 1) (l := x.b) rfl
  have k2 := hR.Keys (i := 2) (l := x.c) rfl
  have a0 : ∀ l : List Str, l.length ≤ 1000 → apd 16 [] l = some l := fun l hl => by rw [apd_i _ _ _ (by decide) (by simp; omega)]; rfl
  have i1 : i64 ((0 : Int) + 1) = 1 := by decide
  have i2 : i64 ((1 : Int) + 1) = 2 := by decide
  have i3 : i64 ((2 : Int) + 1) = 3 := by decide
  unfold tiny_Tiny_Lists
  unfold tiny_Tiny_Lists_l0
  rw [if_pos (by decide), hr, show ring_Rings_Keys_1 (some r) 0 = _ from k0, Option.bind_some, show gi [([] : List Str), [], []] 0 = some [] from rfl, Option.bind_some, a0 _ (by omega), Option.bind_some, i1, show ls [([] : List Str), [], []] 0 x.a = [x.a, [], []] from rfl]
  unfold tiny_Tiny_Lists_l0
  rw [if_pos (by decide), hr, show ring_Rings_Keys_1 (some r) 1 = _ from k1, Option.bind_some, show gi [x.a, ([] : List Str), []] 1 = some [] from rfl, Option.bind_some, a0 _ (by omega), Option.bind_some, i2, show ls [x.a, ([] : List Str), []] 1 x.b = [x.a, x.b, []] from rfl]
  unfold tiny_Tiny_Lists_l0
  rw [if_pos (by decide), hr, show ring_Rings_Keys_1 (some r) 2 = _ from k2, Option.bind_some, show gi [x.a, x.b, ([] : List Str)] 2 = some [] from rfl, Option.bind_some, a0 _ (by omega), Option.bind_some, i3, show ls [x.a, x.b, ([] : List Str)] 2 x.c = [x.a, x.b, x.c] from rfl]
  unfold tiny_Tiny_Lists_l0
  rw [if_neg (by decide)]
theorem TR.gone (h : TR n seed t s x) {r : ring_Rings} {k : Str} (hR : RR 3 (n + 1) r (x.drop k).L) : TR n seed ⟨t.most, t.s, some r⟩ s (x.drop k) := by
  refine ⟨h.n1, h.n2, h.ms, h.sk, h.ok, ⟨r, rfl, hR⟩, ?_, ?_, ?_⟩
  · have := rm_le x.b k; have := rm_le x.c k; have := h.bb
    show (TL.rm x.b k).length + (TL.rm x.c k).length + _ ≤ n; omega
  · exact Nat.le_trans (rm_le _ _) h.ba
  · exact Nat.le_trans (rm_le _ _) h.bc
theorem TR.Remove (h : TR n seed t s x) (k : Str) : ∃ t', tiny_Tiny_Remove t k = some (decide (k ∈ x.all), t') ∧ TR n seed t' s (x.drop k) := by
  obtain ⟨r, hr, hR⟩ := h.rg
  have := h.n2
  obtain ⟨r', e, hR'⟩ := hR.dropA (by omega) (by omega) k
  unfold tiny_Tiny_Remove
  rw [hr, om_some, e, Option.bind_some]
  refine ⟨_, by rw [fl_all], ?_⟩
  exact h.gone (rmL x k ▸ hR')
/-- Who goes when one must. -/
def evk (x : TL) : Option Str := match x.b.getLast? with | some k => some k | none => match x.a.getLast? with | some k => some k | none => x.c.getLast?
theorem evk_none {x : TL} (h : evk x = none) : x = ⟨[], [], []⟩ := by
  obtain ⟨a, b, c⟩ := x
  unfold evk at h
  dsimp only at h
  cases e : b.getLast? with
  | some k => rw [e] at h; cases h
  | none =>
    rw [e] at h; dsimp only at h
    cases e2 : a.getLast? with
    | some k => rw [e2] at h; cases h
    | none =>
      rw [e2] at h; dsimp only at h
      rw [List.getLast?_eq_none_iff.1 e, List.getLast?_eq_none_iff.1 e2, List.getLast?_eq_none_iff.1 h]
theorem RR.BackA {m : Nat} {r : ring_Rings} {L : List (List Str)} {k : Nat} (h : RR k m r L) {i : Nat} {l : List Str} (hl : L[i]? = some l) : ring_Rings_Back r (i : Int) = some (match l.getLast? with | some k => (k, true) | none => ([], false)) := by
  cases e : l.getLast? with
  | some k =>
    obtain ⟨q, rfl⟩ := List.getLast?_eq_some_iff.1 e
    exact h.Back hl
  | none =>
    rw [List.getLast?_eq_none_iff.1 e] at hl
    exact h.Back0 hl
theorem TR.Evict (h : TR n seed t s x) : ∃ t' x', tiny_Tiny_Evict t = some ((match evk x with | some k => (k, true, t') | none => ([], false, t'))) ∧ TR n seed t' s x' ∧ x' = (match evk x with | some k => x.drop k | none => x) := by
  obtain ⟨r, hr, hR⟩ := h.rg
  have hn := h.n2
  have b0 := hR.BackA (i := 0) (l := x.a) rfl
  have b1 := hR.BackA (i := 1) (l := x.b) rfl
  have b2 := hR.BackA (i := 2) (l := x.c) rfl
  unfold tiny_Tiny_Evict
  rw [h.Len, Option.bind_some]
  by_cases hz : x.n = 0
  · have ha : x.a = [] := List.length_eq_zero_iff.1 (by unfold TL.n at hz; omega)
    have hb : x.b = [] := List.length_eq_zero_iff.1 (by unfold TL.n at hz; omega)
    have hc : x.c = [] := List.length_eq_zero_iff.1 (by unfold TL.n at hz; omega)
    rw [hz, if_pos (by rfl)]
    unfold evk
    rw [ha, hb, hc]
    exact ⟨t, x, rfl, h, rfl⟩
  · rw [if_neg (by simpa using hz), hr, om_some, show ring_Rings_Back r 1 = _ from b1, Option.bind_some, show ring_Rings_Back r 0 = _ from b0, show ring_Rings_Back r 2 = _ from b2]
    have D : ∀ k, ∃ t', ((ring_Rings_Drop r k).bind fun r28 => some (k, true, (⟨t.most, t.s, (some r28.2)⟩ : tiny_Tiny))) = some (k, true, t') ∧ TR n seed t' s (x.drop k) := fun k => by
      obtain ⟨r', e, hR'⟩ := hR.dropA (by omega) (by omega) k
      rw [e, Option.bind_some]
      exact ⟨_, rfl, h.gone (rmL x k ▸ hR')⟩
    unfold evk
    cases e1 : x.b.getLast? with
    | some k =>
      obtain ⟨t', e, q⟩ := D k
      exact ⟨t', _, e, q, rfl⟩
    | none =>
      cases e2 : x.a.getLast? with
      | some k =>
        obtain ⟨t', e, q⟩ := D k
        exact ⟨t', _, e, q, rfl⟩
      | none =>
        cases e3 : x.c.getLast? with
        | some k =>
          obtain ⟨t', e, q⟩ := D k
          exact ⟨t', _, e, q, rfl⟩
        | none =>
          exfalso; apply hz
          rw [show x = ⟨[], [], []⟩ from evk_none (by unfold evk; rw [e1]; dsimp only; rw [e2]; exact e3)]; rfl
end
theorem parts_d (n : Nat) (h : n ≤ 1000) (h1 : 1 ≤ n) : hawthornref08_Parts (n : Int) = ((Wn n : Int), (Sf n : Int)) := by
  have e1 : i64 ((n : Int).tdiv 8) = ((n / 8 : Nat) : Int) := by
    rw [show (n : Int).tdiv 8 = ((n / 8 : Nat) : Int) by rw [Int.tdiv_eq_ediv_of_nonneg (by omega)]; omega, i64s _ (by omega) (by omega)]
  have e2 : (if decide (((n / 8 : Nat) : Int) < 1) = true then (1 : Int) else ((n / 8 : Nat) : Int)) = (Wn n : Int) := by
    unfold Wn; simp only [decide_eq_true_eq]; split <;> omega
  have hw := Wn_le h1
  have e3 : i64 ((n : Int) - (Wn n : Int)) = ((n - Wn n : Nat) : Int) := by rw [i64s _ (by omega) (by omega)]; omega
  have e4 : i64 (((n - Wn n : Nat) : Int) * 4) = (((n - Wn n) * 4 : Nat) : Int) := by rw [i64s _ (by omega) (by omega)]; omega
  have e5 : (((n - Wn n) * 4 : Nat) : Int).tdiv 5 = ((Sf n : Nat) : Int) := by
    unfold Sf
    rw [Int.tdiv_eq_ediv_of_nonneg (by omega)]; omega
  have e6 : i64 ((Sf n : Nat) : Int) = (Sf n : Int) := by
    have : Sf n ≤ 1000 := by unfold Sf; omega
    rw [i64s _ (by omega) (by omega)]
  unfold hawthornref08_Parts
  rw [lt_eq, e1, e2, e3, e4, e5, e6]
theorem TR.step (n : Nat) (t : tiny_Tiny) (s : Sk) (x : TL) (h : TR n 3 t s x) (kd : Int) (k : Str) (hk : k.length ≤ 80) : ∃ t' s' x', (if (kd == 6) then om (some t) (none) fun x79 => (tiny_Tiny_Remove x79 k).bind fun r89 => some (some r89.2) else Option.bind (if (kd == 7) then om (some t) (none) fun x107 => (tiny_Tiny_Evict x107).bind fun r117 => some (some r117.2.2) else Option.bind (if (kd == 4) then some (kd == 4) else some (kd == 5)) fun p126 => Option.bind (if p126 then om (some t) (none) fun x139 => (tiny_Tiny_Touch x139 k).bind fun r149 => some (some r149.2) else om (some t) (none) fun x158 => (tiny_Tiny_Insert x158 k).bind fun r168 => some (some r168.2)) fun p130 => some p130) fun p98 => some p98) = some (some t') ∧ TR n 3 t' s' x' := by
  have T : ∃ t' s' x' b, tiny_Tiny_Touch t k = some (b, t') ∧ TR n 3 t' s' x' := by
    by_cases hx : k ∈ x.all
    · obtain ⟨t', e, q, _⟩ := h.touch hx
      exact ⟨t', _, _, _, e, q⟩
    · exact ⟨t, _, _, _, h.touch_no hx, h⟩
  have I : ∃ t' s' x' b, tiny_Tiny_Insert t k = some (b, t') ∧ TR n 3 t' s' x' := by
    by_cases hl : 64 < k.length
    · exact ⟨t, _, _, _, h.insert_long hl, h⟩
    · by_cases hx : k ∈ x.all
      · obtain ⟨t', e, q, _⟩ := h.insert_yes hx
        exact ⟨t', _, _, _, e, q⟩
      · obtain ⟨t', e, q, _⟩ := h.insert_no hx (by omega)
        exact ⟨t', _, _, _, e, q⟩
  by_cases c6 : (kd == 6) = true
  · obtain ⟨t', e, q⟩ := h.Remove k
    rw [if_pos c6, om_some, e, Option.bind_some]
    exact ⟨t', _, _, rfl, q⟩
  · rw [if_neg c6]
    by_cases c7 : (kd == 7) = true
    · obtain ⟨t', x', e, q, _⟩ := h.Evict
      rw [if_pos c7, om_some, e, Option.bind_some]
      refine ⟨t', _, _, ?_, q⟩
      cases evk x <;> rfl
    · rw [if_neg c7]
      obtain ⟨t1, s1, x1, v1, e1, q1⟩ := T
      obtain ⟨t2, s2, x2, v2, e2, q2⟩ := I
      by_cases c4 : (kd == 4) = true
      · rw [if_pos c4, Option.bind_some, if_pos c4, om_some, e1]
        exact ⟨t1, _, _, rfl, q1⟩
      · rw [if_neg c4, Option.bind_some]
        by_cases c5 : (kd == 5) = true
        · rw [if_pos c5, om_some, e1]
          exact ⟨t1, _, _, rfl, q1⟩
        · rw [if_neg c5, om_some, e2]
          exact ⟨t2, _, _, rfl, q2⟩
theorem bnd_loop (a : Int) (l : List hawthornlaw08_Act) (n : Nat) (ha : i64 (1 + (iand a 31)) = (n : Int)) : ∀ (f i : Nat) (t : tiny_Tiny) (s : Sk) (x : TL), f = l.length - i + 1 → i ≤ l.length → i ≤ 100 → TR n 3 t s x →
    hawthornlaw08_TinyBounds_l0 a l ((Wn n : Int), (Sf n : Int)) f (some t) (i : Int) = some (.inl ()) := by
  intro f
  induction f with
  | zero => intro i t s x h; omega
  | succ f ih =>
    intro i t s x hf hi hi2 h
    unfold hawthornlaw08_TinyBounds_l0
    by_cases hc : i < l.length ∧ i < 100
    · rw [if_pos (by simp; omega), gN hc.1, Option.bind_some]
      obtain ⟨k, hk, hk2⟩ := few8 l[i].Key
      rw [hk, Option.bind_some, i_add1 (by omega)]
      obtain ⟨t', s', x', e, q⟩ := TR.step n t s x h l[i].Kind k hk2
      have hbn := q.bn
      have hba := q.ba
      have hbc := q.bc
      have hn := q.n2
      have hN : x'.n = x'.a.length + x'.b.length + x'.c.length := rfl
      have es : i64 (i64 ((x'.a.length : Int) + (x'.b.length : Int)) + (x'.c.length : Int)) = (x'.n : Int) := by
        rw [i64s ((x'.a.length : Int) + (x'.b.length : Int)) (by omega) (by omega), i64s _ (by omega) (by omega)]; omega
      rw [e, Option.bind_some, om_some, q.Lists, Option.bind_some, show gi x'.L 0 = some x'.a from rfl, Option.bind_some, show gi x'.L 1 = some x'.b from rfl, Option.bind_some, show gi x'.L 2 = some x'.c from rfl, Option.bind_some, q.Len, Option.bind_some, es, ha, if_neg (by simp)]
      have d1 : decide ((n : Int) < (x'.n : Int)) = false := by simp; omega
      have d2 : decide ((Wn n : Int) < (x'.a.length : Int)) = false := by simp; omega
      have d3 : decide ((Sf n : Int) < (x'.c.length : Int)) = false := by simp; omega
      dsimp only
      rw [d1, d2, d3, Option.bind_some, if_neg (by decide)]
      exact ih (i + 1) t' s' x' (by omega) (by omega) (by omega) q
    · rw [if_neg (by simp; omega)]
theorem TinyBounds (a : Int) (l : List hawthornlaw08_Act) {p q r : Prop} (_ : p) (_ : q) (_ : r) : hawthornlaw08_TinyBounds a l = some true := by
  obtain ⟨k, hk, hk2⟩ := iand_le a 31 (by decide)
  have hk : iand a 31 = (k : Int) := hk
  obtain ⟨t, s, e, h, _⟩ := new_t (1 + k) 3 (by omega) (by omega)
  have e1 : i64 (1 + iand a 31) = ((1 + k : Nat) : Int) := by rw [hk, i64s _ (by omega) (by omega)]; omega
  have L : hawthornlaw08_TinyBounds_l0 a l ((Wn (1 + k) : Int), (Sf (1 + k) : Int)) (((l.length : Int) - 0).toNat + 1) (some t) 0 = some (.inl ()) := bnd_loop a l (1 + k) e1 _ 0 t s _ (by omega) (by omega) (by omega) h
  unfold hawthornlaw08_TinyBounds
  rw [e1, e, Option.bind_some, awake8, Option.bind_some, if_neg (by simp), lt_eq, parts_d _ (by omega) (by omega), parts_c _ (by omega) (by omega)]
  dsimp only
  rw [L, Option.bind_some]
  simp
end Go.Proofs.Ytlahbmoebbflbaa.Pure
