import Derived.Test.YtpanhdnglicknaaGreatW3
import Derived.Test.YtpanhdnglicknaaGreatPskZ
import Derived.Test.YtpanhdnglicknaaGreatPskP
import Derived.Test.YtpanhdnglicknaaGreatPringA
import Derived.Test.YtpanhdnglicknaaGreatPringB
import Derived.Test.YtpanhdnglicknaaGreatPringC
import Derived.Test.YtpanhdnglicknaaGreatPringD
import Derived.Test.YtpanhdnglicknaaGreatPringE
import Derived.Test.YtpanhdnglicknaaGreatPringF
import Derived.Test.YtpanhdnglicknaaGreatPtinyZ
import Derived.Test.YtpanhdnglicknaaGreatPtinyB
import Derived.Test.YtpanhdnglicknaaGreatPtinyC
import Derived.Test.YtpanhdnglicknaaGreatPtinyY
import Derived.Test.YtpanhdnglicknaaGreatParcA
set_option linter.unusedVariables false
set_option linter.unusedSectionVars false
set_option linter.unusedSimpArgs false
set_option maxRecDepth 100000
set_option maxHeartbeats 8000000

namespace Go.Proofs.YtpanhdnglicknaaGreat.Pure
open Go Go.Proofs.YtpanhdnglicknaaGreat.Hw Go.Proofs.YtpanhdnglicknaaGreat

section
variable {n : Nat} {t : arc_Arc} {x : AL}
/-- The last key of those that went is forgotten. -/
theorem AR.forget2 (h : AR n t x) : ∃ t' x', arc_Arc_forget t 2 = some t' ∧ AR n t' x' ∧ x'.a = x.a ∧ x'.b = x.b ∧ x'.d = x.d ∧ x'.c.length = x.c.length - 1 ∧ ∀ k, k ∈ x'.all → k ∈ x.all := by
  obtain ⟨r, hr, hR⟩ := h.rg
  obtain ⟨na, nb, nc, nd, d1, d2, d3⟩ := all_dj h.nd
  have hn := h.n2
  have k2 := hR.BackA (i := 2) (l := x.c) rfl
  unfold arc_Arc_forget
  rw [hr, om_some]
  by_cases hc : x.c = []
  · rw [hc] at k2
    rw [show ring_Rings_Back r 2 = _ from k2, Option.bind_some, if_neg (by simp)]
    exact ⟨t, x, rfl, h, rfl, rfl, rfl, by rw [hc]; rfl, fun _ q => q⟩
  · have om := List.getLast_mem hc
    rw [List.getLast?_eq_some_getLast hc] at k2
    generalize x.c.getLast hc = o at k2 om
    obtain ⟨r', e, hR'⟩ := hR.dropA (by omega) (by omega) o
    rw [show ring_Rings_Back r 2 = _ from k2, Option.bind_some, if_pos rfl, e, Option.bind_some]
    have rl := rm_len nc om
    refine ⟨_, x.drop o, rfl, h.gone (x := x) hR', rm_no (fun z => (d1 o z).2.1 om), rm_no (fun z => (d2 o z).1 om), rm_no (d3 o om), ?_, fun k hk => ?_⟩
    · show (TL.rm x.c o).length = _; omega
    · rw [mem_all] at hk ⊢
      simp only [AL.drop, rm_mem] at hk
      rcases hk with q | q | q | q
      · exact .inl q.1
      · exact .inr (.inl q.1)
      · exact .inr (.inr (.inl q.1))
      · exact .inr (.inr (.inr q.1))
theorem AR.forget3 (h : AR n t x) : ∃ t' x', arc_Arc_forget t 3 = some t' ∧ AR n t' x' ∧ x'.a = x.a ∧ x'.b = x.b ∧ x'.c = x.c ∧ x'.d.length = x.d.length - 1 ∧ ∀ k, k ∈ x'.all → k ∈ x.all := by
  obtain ⟨r, hr, hR⟩ := h.rg
  obtain ⟨na, nb, nc, nd, d1, d2, d3⟩ := all_dj h.nd
  have hn := h.n2
  have k2 := hR.BackA (i := 3) (l := x.d) rfl
  unfold arc_Arc_forget
  rw [hr, om_some]
  by_cases hc : x.d = []
  · rw [hc] at k2
    rw [show ring_Rings_Back r 3 = _ from k2, Option.bind_some, if_neg (by simp)]
    exact ⟨t, x, rfl, h, rfl, rfl, rfl, by rw [hc]; rfl, fun _ q => q⟩
  · have om := List.getLast_mem hc
    rw [List.getLast?_eq_some_getLast hc] at k2
    generalize x.d.getLast hc = o at k2 om
    obtain ⟨r', e, hR'⟩ := hR.dropA (by omega) (by omega) o
    rw [show ring_Rings_Back r 3 = _ from k2, Option.bind_some, if_pos rfl, e, Option.bind_some]
    have rl := rm_len nd om
    refine ⟨_, x.drop o, rfl, h.gone (x := x) hR', rm_no (fun z => (d1 o z).2.2 om), rm_no (fun z => (d2 o z).2 om), rm_no (fun z => d3 o z om), ?_, fun k hk => ?_⟩
    · show (TL.rm x.d o).length = _; omega
    · rw [mem_all] at hk ⊢
      simp only [AL.drop, rm_mem] at hk
      rcases hk with q | q | q | q
      · exact .inl q.1
      · exact .inr (.inl q.1)
      · exact .inr (.inr (.inl q.1))
      · exact .inr (.inr (.inr q.1))
/-- What is kept behind an insertion of a key that was not kept. -/
def KeptA (n : Nat) (k : Str) (K K' g : List Str) : Prop := (g = [] ∧ K'.Perm (k :: K)) ∨ ∃ o, g = [o] ∧ (o ∈ K ∧ n ≤ K.length) ∧ K'.Perm (k :: TL.rm K o)
/-- A key comes to the front of the first list. -/
theorem AR.fr0 (h : AR n t x) {k : Str} (hk : k ∉ x.all) (h64 : k.length ≤ 64) (b1 : x.a.length + x.b.length + 1 ≤ n) (b2 : x.a.length + x.c.length + 1 ≤ n) (b3 : x.a.length + x.b.length + x.c.length + x.d.length + 1 ≤ 2 * n) (g : List Str) :
    ∃ t', (om t.r (none) fun x53 => (ring_Rings_Front x53 0 k).bind fun r61 => some (g, (⟨t.most, t.target, (some r61.2)⟩ : arc_Arc))) = some (g, t') ∧ AR n t' ⟨k :: x.a, x.b, x.c, x.d⟩ := by
  obtain ⟨r, hr, hR⟩ := h.rg
  obtain ⟨r', e, hR'⟩ := h.front hR h64 (j := 0) (by omega)
  have hR' : RR 4 (2 * n + 1) r' (x.fr0 k).L := hR'
  have q : k ∉ x.a ∧ k ∉ x.b ∧ k ∉ x.c ∧ k ∉ x.d := by rw [mem_all] at hk; simpa using hk
  have e2 : x.fr0 k = ⟨k :: x.a, x.b, x.c, x.d⟩ := by unfold AL.fr0; rw [rm_no q.1, rm_no q.2.1, rm_no q.2.2.1, rm_no q.2.2.2]
  rw [e2] at hR'
  rw [hr, om_some, show ring_Rings_Front r 0 k = _ from e, Option.bind_some]
  refine ⟨_, rfl, ⟨h.n1, h.n2, h.ms, h.tg, ⟨r', rfl, hR'⟩, ?_, ?_, ?_⟩⟩
  · simp only [List.length_cons]; omega
  · simp only [List.length_cons]; omega
  · simp only [List.length_cons]; omega
theorem AR.target (h : AR n t x) {p : Int} (hp : 0 ≤ p ∧ p ≤ (n : Int)) : AR n ⟨t.most, p, t.r⟩ x := ⟨h.n1, h.n2, h.ms, hp, h.rg, h.b1, h.b2, h.b3⟩
theorem tdv {a b : Nat} (hb : 0 < b) (ha : a ≤ 2000) : ∃ q : Nat, i64 ((a : Int).tdiv (b : Int)) = (q : Int) ∧ q ≤ 2000 := by
  refine ⟨a / b, ?_, Nat.le_trans (Nat.div_le_self a b) ha⟩
  have : (a : Int).tdiv (b : Int) = ((a / b : Nat) : Int) := by rw [Int.tdiv_eq_ediv_of_nonneg (by omega)]; exact (Int.natCast_ediv a b).symm
  have h2 : a / b ≤ 2000 := Nat.le_trans (Nat.div_le_self a b) ha
  rw [this]
  generalize a / b = q at h2 ⊢
  rw [i64s _ (by omega) (by omega)]
/-- A key that went comes again. -/
theorem AR.again (h : AR n t x) {k : Str} (hk : k ∈ x.c ∨ k ∈ x.d) : ∃ g t' x', arc_Arc_again t k (if k ∈ x.c then 2 else 3) = some (g, t') ∧ AR n t' x' ∧ KeptA n k x.kept x'.kept g := by
  obtain ⟨r, hr, hR⟩ := h.rg
  obtain ⟨na, nb, nc, nd, d1, d2, d3⟩ := all_dj h.nd
  have b1 := h.b1; have b2 := h.b2; have b3 := h.b3; have hn := h.n2; have hn1 := h.n1
  have tg := h.tg
  have l2 := hR.Len (i := 2) (l := x.c) rfl
  have l3 := hR.Len (i := 3) (l := x.d) rfl
  have hkall : k ∈ x.all := mem_all.2 (.inr (.inr hk))
  have hkn : k ∉ x.kept := by
    rw [mem_kept]
    rintro (q | q)
    · rcases hk with z | z
      · exact (d1 k q).2.1 z
      · exact (d1 k q).2.2 z
    · rcases hk with z | z
      · exact (d2 k q).1 z
      · exact (d2 k q).2 z
  have k64 := h.kl k hkall
  -- the target
  have T : ∃ p : Int, (if ((if k ∈ x.c then (2 : Int) else 3) == 2) then if (x.c.length : Int) ≠ 0 then some (if (i64 (t.target + (if 1 < (i64 ((x.d.length : Int).tdiv (x.c.length : Int))) then i64 ((x.d.length : Int).tdiv (x.c.length : Int)) else 1))) < t.most then i64 (t.target + (if 1 < (i64 ((x.d.length : Int).tdiv (x.c.length : Int))) then i64 ((x.d.length : Int).tdiv (x.c.length : Int)) else 1)) else t.most) else none
      else if (x.d.length : Int) ≠ 0 then some (if 0 < (i64 (t.target - (if 1 < (i64 ((x.c.length : Int).tdiv (x.d.length : Int))) then i64 ((x.c.length : Int).tdiv (x.d.length : Int)) else 1))) then i64 (t.target - (if 1 < (i64 ((x.c.length : Int).tdiv (x.d.length : Int))) then i64 ((x.c.length : Int).tdiv (x.d.length : Int)) else 1)) else 0) else none) = some p ∧ 0 ≤ p ∧ p ≤ (n : Int) := by
    by_cases hc : k ∈ x.c
    · have hcp : 0 < x.c.length := List.length_pos_of_mem hc
      rw [if_pos hc, if_pos (show ((2 : Int) == 2) = true from rfl), if_pos (show (x.c.length : Int) ≠ 0 by omega)]
      obtain ⟨q, hq, hq2⟩ := tdv (a := x.d.length) hcp (by omega)
      rw [hq, h.ms]
      have hs : ∃ s : Nat, (if (1 : Int) < (q : Int) then (q : Int) else 1) = (s : Int) ∧ s ≤ 2001 ∧ 1 ≤ s := by
        split
        · exact ⟨q, rfl, by omega, by omega⟩
        · exact ⟨1, rfl, by omega, by omega⟩
      obtain ⟨s, hs, hs2, hs3⟩ := hs
      rw [hs, i64s _ (by omega) (by omega)]
      refine ⟨_, rfl, ?_, ?_⟩ <;> split <;> omega
    · have hd := hk.resolve_left hc
      have hdp : 0 < x.d.length := List.length_pos_of_mem hd
      rw [if_neg hc, if_neg (show ¬ ((3 : Int) == 2) = true by decide), if_pos (show (x.d.length : Int) ≠ 0 by omega)]
      obtain ⟨q, hq, hq2⟩ := tdv (a := x.c.length) hdp (by omega)
      rw [hq]
      have hs : ∃ s : Nat, (if (1 : Int) < (q : Int) then (q : Int) else 1) = (s : Int) ∧ s ≤ 2001 ∧ 1 ≤ s := by
        split
        · exact ⟨q, rfl, by omega, by omega⟩
        · exact ⟨1, rfl, by omega, by omega⟩
      obtain ⟨s, hs, hs2, hs3⟩ := hs
      rw [hs, i64s _ (by omega) (by omega)]
      refine ⟨_, rfl, ?_, ?_⟩ <;> split <;> omega
  obtain ⟨p, hp, hp2⟩ := T
  -- the key at the front of the second list
  have FR : ∀ (t' : arc_Arc) (x' : AL) (g : List Str), AR n t' x' → k ∈ x'.all → k ∉ x'.kept → x'.a.length + x'.b.length + 1 ≤ n → ∃ t'' x'', (om t'.r (none) fun x30 => (ring_Rings_Front x30 1 k).bind fun r38 => some (g, (⟨t'.most, t'.target, (some r38.2)⟩ : arc_Arc))) = some (g, t'') ∧ AR n t'' x'' ∧ x''.kept.Perm (k :: x'.kept) := by
    intro t' x' g h' hm hkk hb
    obtain ⟨r1, hr1, hR1⟩ := h'.rg
    obtain ⟨r', e, hR'⟩ := h'.front hR1 k64 (j := 1) (by omega)
    have hR' : RR 4 (2 * n + 1) r' (x'.fr1 k).L := hR'
    obtain ⟨na', nb', nc', nd', _, _, d3'⟩ := all_dj h'.nd
    have qa : k ∉ x'.a := fun z => hkk (mem_kept.2 (.inl z))
    have qb : k ∉ x'.b := fun z => hkk (mem_kept.2 (.inr z))
    have qcd : k ∈ x'.c ∨ k ∈ x'.d := by rw [mem_all] at hm; simpa [qa, qb] using hm
    rw [hr1, om_some, show ring_Rings_Front r1 1 k = _ from e, Option.bind_some]
    have lc := rm_le x'.c k
    have ld := rm_le x'.d k
    have c3 := h'.b3; have c2 := h'.b2
    have hs : (TL.rm x'.c k).length + (TL.rm x'.d k).length + 1 = x'.c.length + x'.d.length := by
      rcases qcd with q | q
      · have := rm_len nc' q; rw [rm_no (d3' k q)]; omega
      · have := rm_len nd' q; rw [rm_no (fun z => d3' k z q)]; omega
    refine ⟨_, x'.fr1 k, rfl, ⟨h'.n1, h'.n2, h'.ms, h'.tg, ⟨r', rfl, hR'⟩, ?_, ?_, ?_⟩, ?_⟩
    · show (TL.rm x'.a k).length + (k :: TL.rm x'.b k).length ≤ n; rw [rm_no qa, rm_no qb]; simp; omega
    · show (TL.rm x'.a k).length + (TL.rm x'.c k).length ≤ n; rw [rm_no qa]; omega
    · show (TL.rm x'.a k).length + (k :: TL.rm x'.b k).length + (TL.rm x'.c k).length + (TL.rm x'.d k).length ≤ 2 * n; rw [rm_no qa, rm_no qb]; simp; omega
    · show (TL.rm x'.a k ++ k :: TL.rm x'.b k).Perm _
      rw [rm_no qa, rm_no qb]; exact List.perm_middle
  unfold arc_Arc_again
  rw [hr, om_some, show ring_Rings_Len r 2 = _ from l2, Option.bind_some, show ring_Rings_Len r 3 = _ from l3, Option.bind_some, hp, Option.bind_some]
  have hT := h.target hp2
  rw [hr] at hT
  rw [hT.Len, Option.bind_some, h.ms]
  rw [h.ms] at hT
  by_cases c1 : n ≤ x.a.length + x.b.length
  · rw [if_pos (by simp; omega)]
    have hne : x.kept ≠ [] := by intro q; have := congrArg List.length q; unfold AL.kept at this; simp at this; rw [this.1, this.2] at c1; simp at c1; omega
    obtain ⟨o, t', x', e, h', om, pm, e1, e2, e3, e4⟩ := hT.replace ((if k ∈ x.c then (2 : Int) else 3) == 3) hne
    rw [e, Option.bind_some, Option.bind_some]
    dsimp only
    obtain ⟨t'', x'', ef, h'', pf⟩ := FR t' x' [o] h' ((e4 k).2 hkall) (fun z => hkn (rm_mem.1 (pm.subset z)).1) (by omega)
    exact ⟨[o], t'', x'', ef, h'', .inr ⟨o, rfl, ⟨om, by unfold AL.kept; simp; omega⟩, pf.trans (pm.cons k)⟩⟩
  · rw [if_neg (by simp; omega), Option.bind_some]
    dsimp only
    obtain ⟨t'', x'', ef, h'', pf⟩ := FR _ x [] hT hkall hkn (by omega)
    exact ⟨[], t'', x'', ef, h'', .inl ⟨rfl, pf⟩⟩
theorem AR.insert (h : AR n t x) {k : Str} (hk : k ∉ x.kept) (h64 : k.length ≤ 64) : ∃ g t' x', arc_Arc_Insert t k = some (g, t') ∧ AR n t' x' ∧ KeptA n k x.kept x'.kept g := by
  have hh := h
  obtain ⟨r, hr, hR⟩ := h.rg
  obtain ⟨na, nb, nc, nd, d1, d2, d3⟩ := all_dj h.nd
  have b1 := h.b1; have b2 := h.b2; have b3 := h.b3; have hn := h.n2; have hn1 := h.n1
  have l0 := hR.Len (i := 0) (l := x.a) rfl
  have l1 := hR.Len (i := 1) (l := x.b) rfl
  have l2 := hR.Len (i := 2) (l := x.c) rfl
  have l3 := hR.Len (i := 3) (l := x.d) rfl
  have et : (⟨t.most, t.target, some r⟩ : arc_Arc) = t := by rw [← hr]
  unfold arc_Arc_Insert
  rw [if_neg (by simp; omega), h.touch_no hk, Option.bind_some, Option.bind_some, if_neg (by simp)]
  dsimp only
  rw [hr, om_some, et]
  by_cases hcd : k ∈ x.c ∨ k ∈ x.d
  · have hin : ring_Rings_In r k = some ((if k ∈ x.c then (2 : Int) else 3), true) := by
      by_cases hc : k ∈ x.c
      · rw [if_pos hc]; exact hR.in_some (i := 2) rfl hc
      · rw [if_neg hc]; exact hR.in_some (i := 3) rfl (hcd.resolve_left hc)
    rw [hin, Option.bind_some, if_pos rfl]
    obtain ⟨g, t', x', e, h', hK⟩ := h.again hcd
    rw [e, Option.bind_some]
    exact ⟨g, t', x', rfl, h', hK⟩
  · have hall : k ∉ x.all := by rw [mem_all]; rw [mem_kept] at hk; simp only [not_or] at hk hcd ⊢; exact ⟨hk.1, hk.2, hcd.1, hcd.2⟩
    rw [hR.in_none (by rw [afl]; exact hall), Option.bind_some, if_neg (by simp), show ring_Rings_Len r 0 = _ from l0, Option.bind_some, show ring_Rings_Len r 2 = _ from l2, Option.bind_some, show ring_Rings_Len r 1 = _ from l1, Option.bind_some, show ring_Rings_Len r 3 = _ from l3, Option.bind_some]
    have s1 : i64 ((x.a.length : Int) + (x.c.length : Int)) = ((x.a.length + x.c.length : Nat) : Int) := by rw [i64s _ (by omega) (by omega)]; omega
    have s2 : i64 (((x.a.length + x.c.length : Nat) : Int) + (x.b.length : Int)) = ((x.a.length + x.c.length + x.b.length : Nat) : Int) := by rw [i64s _ (by omega) (by omega)]; omega
    have s3 : i64 (((x.a.length + x.c.length + x.b.length : Nat) : Int) + (x.d.length : Int)) = ((x.a.length + x.c.length + x.b.length + x.d.length : Nat) : Int) := by rw [i64s _ (by omega) (by omega)]; omega
    have s4 : i64 (2 * (n : Int)) = ((2 * n : Nat) : Int) := by rw [i64s _ (by omega) (by omega)]; omega
    rw [s1, s2, s3, h.ms, s4]
    -- the rest: one goes if there are too many
    have RP : ∀ (t1 : arc_Arc) (x1 : AL), AR n t1 x1 → k ∉ x1.all → x1.a = x.a → x1.b = x.b → x1.a.length + x1.c.length + 1 ≤ n → x1.a.length + x1.b.length + x1.c.length + x1.d.length + 1 ≤ 2 * n →
        ∃ g t2 x2, ((arc_Arc_Len t1).bind fun r76 => Option.bind (if decide (t1.most ≤ r76) then (arc_Arc_replace t1 false).bind fun r89 => some (r89.1, r89.2) else some ([], t1)) fun p78 => some (p78.1, p78.2)) = some (g, t2) ∧ AR n t2 x2 ∧ k ∉ x2.all ∧ x2.a.length + x2.b.length + 1 ≤ n ∧ x2.a.length + x2.c.length + 1 ≤ n ∧ x2.a.length + x2.b.length + x2.c.length + x2.d.length + 1 ≤ 2 * n ∧
          ((g = [] ∧ x2.kept = x.kept) ∨ ∃ o, g = [o] ∧ (o ∈ x.kept ∧ n ≤ x.kept.length) ∧ x2.kept.Perm (TL.rm x.kept o)) := by
      intro t1 x1 h1 hk1 ea eb q2 q3
      have ek : x1.kept = x.kept := by unfold AL.kept; rw [ea, eb]
      rw [h1.Len, Option.bind_some, h1.ms]
      by_cases c1 : n ≤ x1.a.length + x1.b.length
      · rw [if_pos (by simp; omega)]
        have hne : x1.kept ≠ [] := by intro q; have := congrArg List.length q; unfold AL.kept at this; simp at this; rw [this.1, this.2] at c1; simp at c1; omega
        obtain ⟨o, t', x', e, h', om, pm, e1, e2, e3, e4⟩ := h1.replace false hne
        rw [e, Option.bind_some, Option.bind_some]
        have c2 := h1.b1
        exact ⟨[o], t', x', rfl, h', fun z => hk1 ((e4 k).1 z), by omega, by omega, by omega, .inr ⟨o, rfl, ⟨ek ▸ om, by unfold AL.kept; rw [← ea, ← eb]; simp; omega⟩, ek ▸ pm⟩⟩
      · rw [if_neg (by simp; omega), Option.bind_some]
        exact ⟨[], t1, x1, rfl, h1, hk1, by omega, q2, q3, .inl ⟨rfl, ek⟩⟩
    have FIN : ∀ (g : List Str) (t2 : arc_Arc) (x2 : AL), AR n t2 x2 → k ∉ x2.all → x2.a.length + x2.b.length + 1 ≤ n → x2.a.length + x2.c.length + 1 ≤ n → x2.a.length + x2.b.length + x2.c.length + x2.d.length + 1 ≤ 2 * n →
        ((g = [] ∧ x2.kept = x.kept) ∨ ∃ o, g = [o] ∧ (o ∈ x.kept ∧ n ≤ x.kept.length) ∧ x2.kept.Perm (TL.rm x.kept o)) →
        ∃ g' t' x', (om t2.r (none) fun x53 => (ring_Rings_Front x53 0 k).bind fun r61 => some (g, (⟨t2.most, t2.target, (some r61.2)⟩ : arc_Arc))) = some (g', t') ∧ AR n t' x' ∧ KeptA n k x.kept x'.kept g' := by
      intro g t2 x2 h2 k2 q1 q2 q3 hg
      obtain ⟨t', e, h'⟩ := h2.fr0 k2 h64 q1 q2 q3 g
      refine ⟨g, t', _, e, h', ?_⟩
      show KeptA n k x.kept ((k :: x2.a) ++ x2.b) g
      rcases hg with ⟨rfl, e1⟩ | ⟨o, rfl, e1, e2⟩
      · exact .inl ⟨rfl, by rw [← e1]; exact List.Perm.refl _⟩
      · exact .inr ⟨o, rfl, e1, e2.cons k⟩
    by_cases c1 : n ≤ x.a.length + x.c.length
    · rw [if_pos (by simp; omega), Option.bind_some]
      by_cases c2 : x.a.length < n
      · -- the last of those that went is forgotten
        rw [if_pos (by simp; omega)]
        obtain ⟨t1, x1, e1, h1, ea, eb, ed, ec, em⟩ := h.forget2
        rw [e1, Option.bind_some]
        obtain ⟨g, t2, x2, e2, h2, k2, q1, q2, q3, hg⟩ := RP t1 x1 h1 (fun z => hall (em k z)) ea eb (by rw [ea, ec]; omega) (by rw [ea, eb, ed, ec]; omega)
        rw [e2, Option.bind_some]
        exact FIN g t2 x2 h2 k2 q1 q2 q3 hg
      · -- the last that was asked for once goes
        have hlen : x.a.length = n := by omega
        have hc0 : x.c = [] := List.length_eq_zero_iff.1 (by omega)
        have hb0 : x.b = [] := List.length_eq_zero_iff.1 (by omega)
        have hna : x.a ≠ [] := by intro q; rw [q] at hlen; simp at hlen; omega
        have k0 := hR.BackA (i := 0) (l := x.a) rfl
        have om := List.getLast_mem hna
        rw [List.getLast?_eq_some_getLast hna] at k0
        generalize x.a.getLast hna = o at k0 om
        rw [if_neg (by simp; omega), if_pos (by simp; omega), show ring_Rings_Back r 0 = _ from k0, Option.bind_some]
        obtain ⟨r', e, hR'⟩ := hR.dropA (by omega) (by omega) o
        dsimp only
        rw [e, Option.bind_some, Option.bind_some, Option.bind_some]
        have h2 := h.gone (x := x) hR'
        rw [h.ms] at h2
        have rl := rm_len na om
        refine FIN [o] _ (x.drop o) h2 (fun z => hall ?_) ?_ ?_ ?_ (.inr ⟨o, rfl, ⟨mem_kept.2 (.inl om), by unfold AL.kept; simp; omega⟩, by rw [drop_kept]⟩)
        · rw [mem_all] at z ⊢
          simp only [AL.drop, rm_mem] at z
          rcases z with q | q | q | q
          · exact .inl q.1
          · exact .inr (.inl q.1)
          · exact .inr (.inr (.inl q.1))
          · exact .inr (.inr (.inr q.1))
        · show (TL.rm x.a o).length + (TL.rm x.b o).length + 1 ≤ n; have := rm_le x.b o; omega
        · show (TL.rm x.a o).length + (TL.rm x.c o).length + 1 ≤ n; have := rm_le x.c o; omega
        · show (TL.rm x.a o).length + (TL.rm x.b o).length + (TL.rm x.c o).length + (TL.rm x.d o).length + 1 ≤ 2 * n
          have := rm_le x.b o; have := rm_le x.c o; have := rm_le x.d o; omega
    · rw [if_neg (by simp; omega), Option.bind_some, if_neg (by simp), if_neg (by simp; omega)]
      by_cases c3 : n ≤ x.a.length + x.c.length + x.b.length + x.d.length
      · rw [if_pos (by simp; omega)]
        by_cases c4 : 2 * n ≤ x.a.length + x.c.length + x.b.length + x.d.length
        · rw [if_pos (by simp; omega)]
          obtain ⟨t1, x1, e1, h1, ea, eb, ec, ed, em⟩ := h.forget3
          rw [e1, Option.bind_some, Option.bind_some]
          obtain ⟨g, t2, x2, e2, h2, k2, q1, q2, q3, hg⟩ := RP t1 x1 h1 (fun z => hall (em k z)) ea eb (by rw [ea, ec]; omega) (by rw [ea, eb, ed, ec]; omega)
          rw [e2, Option.bind_some, Option.bind_some, Option.bind_some]
          exact FIN g t2 x2 h2 k2 q1 q2 q3 hg
        · rw [if_neg (by simp; omega), Option.bind_some]
          obtain ⟨g, t2, x2, e2, h2, k2, q1, q2, q3, hg⟩ := RP t x h hall rfl rfl (by omega) (by omega)
          rw [e2, Option.bind_some, Option.bind_some, Option.bind_some]
          exact FIN g t2 x2 h2 k2 q1 q2 q3 hg
      · rw [if_neg (by simp; omega), Option.bind_some, Option.bind_some, Option.bind_some]
        exact FIN [] t x h hall (by omega) (by omega) (by omega) (.inl ⟨rfl, rfl⟩)
theorem AR.insert_yes (h : AR n t x) {k : Str} (hk : k ∈ x.kept) : ∃ t' x', arc_Arc_Insert t k = some ([], t') ∧ AR n t' x' ∧ x'.kept.Perm x.kept := by
  obtain ⟨t', x', e, h1, h2⟩ := h.touch hk
  have h64 := h.kl k (mem_all.2 ((mem_kept.1 hk).imp id .inl))
  unfold arc_Arc_Insert
  rw [if_neg (by simp; omega), e, Option.bind_some, Option.bind_some, if_pos rfl]
  exact ⟨t', x', rfl, h1, h2⟩
theorem AR.evict (h : AR n t x) : (x.kept = [] ∧ arc_Arc_Evict t = some ([], false, t)) ∨ ∃ o t' x', arc_Arc_Evict t = some (o, true, t') ∧ AR n t' x' ∧ o ∈ x.kept ∧ x'.kept.Perm (TL.rm x.kept o) := by
  unfold arc_Arc_Evict
  rw [h.Len, Option.bind_some]
  by_cases hk : x.kept = []
  · have := congrArg List.length hk
    unfold AL.kept at this
    simp at this
    rw [this.1, this.2]
    exact .inl ⟨hk, rfl⟩
  · have : x.a.length + x.b.length ≠ 0 := by
      intro q; apply hk; unfold AL.kept
      rw [List.length_eq_zero_iff.1 (show x.a.length = 0 by omega), List.length_eq_zero_iff.1 (show x.b.length = 0 by omega)]; rfl
    rw [if_neg (by simp; omega)]
    obtain ⟨o, t', x', e, h', om, pm, _⟩ := h.replace false hk
    rw [e, Option.bind_some]
    exact .inr ⟨o, t', x', rfl, h', om, pm⟩
end
theorem new_a (n : Nat) (h1 : 1 ≤ n) (h2 : n ≤ 1000) : ∃ t, arc_New (n : Int) = some (some t, 0) ∧ AR n t ⟨[], [], [], []⟩ := by
  obtain ⟨r, e, hR⟩ := new_ok 4 (2 * n + 1) (by omega) (by omega) (by omega)
  have e1 : i64 (2 * (n : Int)) = ((2 * n : Nat) : Int) := by rw [i64s _ (by omega) (by omega)]; omega
  have e2 : i64 (((2 * n : Nat) : Int) + 1) = ((2 * n + 1 : Nat) : Int) := by rw [i64s _ (by omega) (by omega)]; omega
  unfold arc_New
  rw [if_neg (by simp; omega), e1, e2, show ring_New 4 ((2 * n + 1 : Nat) : Int) = _ from e, Option.bind_some]
  exact ⟨_, rfl, h1, h2, rfl, ⟨by simp, by simp⟩, ⟨r, rfl, hR⟩, by simp, by simp, by simp⟩
end Go.Proofs.YtpanhdnglicknaaGreat.Pure
