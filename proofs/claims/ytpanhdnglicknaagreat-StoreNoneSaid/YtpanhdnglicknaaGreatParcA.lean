import Derived.Test.YtpanhdnglicknaaGreatW3
import Derived.Test.YtpanhdnglicknaaGreatPskZ
import Derived.Test.YtpanhdnglicknaaGreatPskP
import Derived.Test.YtpanhdnglicknaaGreatPringA
import Derived.Test.YtpanhdnglicknaaGreatPringB
import Derived.Test.YtpanhdnglicknaaGreatPringC
import Derived.Test.YtpanhdnglicknaaGreatPringD
import Derived.Test.YtpanhdnglicknaaGreatPringE
import Derived.Test.YtpanhdnglicknaaGreatPringF
import Derived.Test.YtpanhdnglicknaaGreatPtinyZ
import Derived.Test.YtpanhdnglicknaaGreatPtinyB
import Derived.Test.YtpanhdnglicknaaGreatPtinyC
import Derived.Test.YtpanhdnglicknaaGreatPtinyY
set_option linter.unusedVariables false
set_option linter.unusedSectionVars false
set_option linter.unusedSimpArgs false
set_option maxRecDepth 100000
set_option maxHeartbeats 8000000

namespace Go.Proofs.YtpanhdnglicknaaGreat.Pure
open Go Go.Proofs.YtpanhdnglicknaaGreat.Hw Go.Proofs.YtpanhdnglicknaaGreat

/-! four lists of keys: kept (asked for once, more often), gone from these -/
structure AL where
  a : List Str
  b : List Str
  c : List Str
  d : List Str
namespace AL
abbrev L (x : AL) : List (List Str) := [x.a, x.b, x.c, x.d]
def all (x : AL) : List Str := x.a ++ (x.b ++ (x.c ++ x.d))
def kept (x : AL) : List Str := x.a ++ x.b
def drop (x : AL) (k : Str) : AL := ⟨TL.rm x.a k, TL.rm x.b k, TL.rm x.c k, TL.rm x.d k⟩
def fr0 (x : AL) (k : Str) : AL := ⟨k :: TL.rm x.a k, TL.rm x.b k, TL.rm x.c k, TL.rm x.d k⟩
def fr1 (x : AL) (k : Str) : AL := ⟨TL.rm x.a k, k :: TL.rm x.b k, TL.rm x.c k, TL.rm x.d k⟩
def fr2 (x : AL) (k : Str) : AL := ⟨TL.rm x.a k, TL.rm x.b k, k :: TL.rm x.c k, TL.rm x.d k⟩
def fr3 (x : AL) (k : Str) : AL := ⟨TL.rm x.a k, TL.rm x.b k, TL.rm x.c k, k :: TL.rm x.d k⟩
end AL
theorem afl (x : AL) : x.L.flatten = x.all := by simp [AL.L, AL.all]
structure AR (n : Nat) (t : arc_Arc) (x : AL) : Prop where
  n1 : 1 ≤ n
  n2 : n ≤ 1000
  ms : t.most = (n : Int)
  tg : 0 ≤ t.target ∧ t.target ≤ (n : Int)
  rg : ∃ r, t.r = some r ∧ RR 4 (2 * n + 1) r x.L
  b1 : x.a.length + x.b.length ≤ n
  b2 : x.a.length + x.c.length ≤ n
  b3 : x.a.length + x.b.length + x.c.length + x.d.length ≤ 2 * n
section
variable {n : Nat} {t : arc_Arc} {x : AL}
theorem AR.nd (h : AR n t x) : x.all.Nodup := by
  obtain ⟨r, _, hr⟩ := h.rg; have := hr.nd; rw [afl] at this; exact this
theorem AR.kl (h : AR n t x) : ∀ k ∈ x.all, k.length ≤ 64 := by
  obtain ⟨r, _, hr⟩ := h.rg; have := hr.kl; rw [afl] at this; exact this
theorem mem_all {x : AL} {k : Str} : k ∈ x.all ↔ k ∈ x.a ∨ k ∈ x.b ∨ k ∈ x.c ∨ k ∈ x.d := by unfold AL.all; simp
theorem mem_kept {x : AL} {k : Str} : k ∈ x.kept ↔ k ∈ x.a ∨ k ∈ x.b := by unfold AL.kept; simp
theorem all_dj {x : AL} (h : x.all.Nodup) : x.a.Nodup ∧ x.b.Nodup ∧ x.c.Nodup ∧ x.d.Nodup ∧ (∀ k ∈ x.a, k ∉ x.b ∧ k ∉ x.c ∧ k ∉ x.d) ∧ (∀ k ∈ x.b, k ∉ x.c ∧ k ∉ x.d) ∧ ∀ k ∈ x.c, k ∉ x.d := by
  unfold AL.all at h
  rw [List.nodup_append, List.nodup_append, List.nodup_append] at h
  obtain ⟨h1, ⟨h2, ⟨h3, h4, h5⟩, h6⟩, h7⟩ := h
  refine ⟨h1, h2, h3, h4, fun k hk => ⟨fun q => h7 k hk k (by simp [q]) rfl, fun q => h7 k hk k (by simp [q]) rfl, fun q => h7 k hk k (by simp [q]) rfl⟩, fun k hk => ⟨fun q => h6 k hk k (by simp [q]) rfl, fun q => h6 k hk k (by simp [q]) rfl⟩, fun k hk q => h5 k hk k q rfl⟩
theorem AR.knd (h : AR n t x) : x.kept.Nodup := by
  obtain ⟨h1, h2, _, _, h3, _⟩ := all_dj h.nd
  unfold AL.kept
  rw [List.nodup_append]
  exact ⟨h1, h2, fun k hk q hq => fun e => (h3 k hk).1 (e ▸ hq)⟩
theorem AR.Has (h : AR n t x) (k : Str) : arc_Arc_Has t k = some (decide (k ∈ x.kept)) := by
  obtain ⟨r, hr, hR⟩ := h.rg
  obtain ⟨_, _, _, _, d1, d2, d3⟩ := all_dj h.nd
  unfold arc_Arc_Has
  rw [hr, om_some]
  by_cases ha : k ∈ x.a
  · rw [hR.in_some (i := 0) rfl ha, Option.bind_some]; simp [mem_kept, ha]
  · by_cases hb : k ∈ x.b
    · rw [hR.in_some (i := 1) rfl hb, Option.bind_some]; simp [mem_kept, hb]
    · by_cases hc : k ∈ x.c
      · rw [hR.in_some (i := 2) rfl hc, Option.bind_some]; simp [mem_kept, ha, hb]
      · by_cases hd : k ∈ x.d
        · rw [hR.in_some (i := 3) rfl hd, Option.bind_some]; simp [mem_kept, ha, hb]
        · rw [hR.in_none (by rw [afl, mem_all]; simp [ha, hb, hc, hd]), Option.bind_some]; simp [mem_kept, ha, hb]
theorem AR.Len (h : AR n t x) : arc_Arc_Len t = some ((x.a.length + x.b.length : Nat) : Int) := by
  obtain ⟨r, hr, hR⟩ := h.rg
  have := h.b1
  have := h.n2
  have l0 := hR.Len (i := 0) (l := x.a) rfl
  have l1 := hR.Len (i := 1) (l := x.b) rfl
  unfold arc_Arc_Len
  rw [hr, om_some, show ring_Rings_Len r 0 = _ from l0, Option.bind_some, show ring_Rings_Len r 1 = _ from l1, Option.bind_some, i64s _ (by omega) (by omega)]
  congr 1
/-- A key that lies in a list is moved, or one that lies in none comes: the lists behind it. -/
theorem AR.front (h : AR n t x) {r : ring_Rings} (hR : RR 4 (2 * n + 1) r x.L) {k : Str} (h64 : k.length ≤ 64) {j : Nat} (hj : j < 4) : ∃ r', ring_Rings_Front r (j : Int) k = some (true, r') ∧ RR 4 (2 * n + 1) r' (frK x.L j k) := by
  have := h.n2
  have := h.b3
  exact hR.frontA (by omega) h64 (.inr (by rw [afl]; unfold AL.all; simp; omega)) hj
theorem AR.touch (h : AR n t x) {k : Str} (hk : k ∈ x.kept) : ∃ t' x', arc_Arc_Touch t k = some (true, t') ∧ AR n t' x' ∧ x'.kept.Perm x.kept := by
  obtain ⟨r, hr, hR⟩ := h.rg
  obtain ⟨na, nb, nc, nd, d1, d2, d3⟩ := all_dj h.nd
  have hall : k ∈ x.all := mem_all.2 ((mem_kept.1 hk).imp id .inl)
  obtain ⟨r', e, hR'⟩ := h.front hR (h.kl k hall) (j := 1) (by omega)
  have hR' : RR 4 (2 * n + 1) r' (x.fr1 k).L := hR'
  unfold arc_Arc_Touch
  rw [h.Has, Option.bind_some, if_neg (by simp [hk]), hr, om_some, show ring_Rings_Front r 1 k = _ from e, Option.bind_some]
  have lc := rm_le x.c k
  have ld := rm_le x.d k
  have b1 := h.b1; have b2 := h.b2; have b3 := h.b3
  have la := rm_le x.a k
  have hs : (TL.rm x.a k).length + (TL.rm x.b k).length + 1 = x.a.length + x.b.length := by
    rcases mem_kept.1 hk with q | q
    · have := rm_len na q; rw [rm_no (d1 k q).1]; omega
    · have := rm_len nb q; rw [rm_no (fun z => (d1 k z).1 q)]; omega
  refine ⟨_, x.fr1 k, rfl, ⟨h.n1, h.n2, h.ms, h.tg, ⟨r', rfl, hR'⟩, ?_, ?_, ?_⟩, ?_⟩
  · show (TL.rm x.a k).length + (k :: TL.rm x.b k).length ≤ n; simp; omega
  · show (TL.rm x.a k).length + (TL.rm x.c k).length ≤ n; omega
  · show (TL.rm x.a k).length + (k :: TL.rm x.b k).length + (TL.rm x.c k).length + (TL.rm x.d k).length ≤ 2 * n; simp; omega
  · refine List.Perm.trans ?_ (rm_perm h.knd hk).symm
    show (TL.rm x.a k ++ k :: TL.rm x.b k).Perm _
    unfold AL.kept; rw [rm_app]
    exact List.perm_middle
theorem AR.touch_no (h : AR n t x) {k : Str} (hk : k ∉ x.kept) : arc_Arc_Touch t k = some (false, t) := by
  unfold arc_Arc_Touch
  rw [h.Has, Option.bind_some, if_pos (by simp [hk])]
theorem AR.gone (h : AR n t x) {r : ring_Rings} {k : Str} (hR : RR 4 (2 * n + 1) r (x.drop k).L) : AR n ⟨t.most, t.target, some r⟩ (x.drop k) := by
  have la := rm_le x.a k; have lb := rm_le x.b k; have lc := rm_le x.c k; have ld := rm_le x.d k
  have b1 := h.b1; have b2 := h.b2; have b3 := h.b3
  refine ⟨h.n1, h.n2, h.ms, h.tg, ⟨r, rfl, hR⟩, ?_, ?_, ?_⟩
  · show (TL.rm x.a k).length + (TL.rm x.b k).length ≤ n; omega
  · show (TL.rm x.a k).length + (TL.rm x.c k).length ≤ n; omega
  · show (TL.rm x.a k).length + (TL.rm x.b k).length + (TL.rm x.c k).length + (TL.rm x.d k).length ≤ 2 * n; omega
theorem drop_kept (x : AL) (k : Str) : (x.drop k).kept = TL.rm x.kept k := by unfold AL.drop AL.kept; rw [rm_app]
theorem AR.remove (h : AR n t x) (k : Str) : ∃ t', arc_Arc_Remove t k = some (decide (k ∈ x.kept), t') ∧ AR n t' (x.drop k) := by
  obtain ⟨r, hr, hR⟩ := h.rg
  have := h.n2
  obtain ⟨r', e, hR'⟩ := hR.dropA (by omega) (by omega) k
  unfold arc_Arc_Remove
  rw [h.Has, Option.bind_some, hr, om_some, e, Option.bind_some]
  exact ⟨_, rfl, h.gone (x := x) hR'⟩
/-- One that is kept goes, to those that went. -/
theorem AR.replace (h : AR n t x) (w : Bool) (hne : x.kept ≠ []) : ∃ o t' x', arc_Arc_replace t w = some ([o], t') ∧ AR n t' x' ∧ o ∈ x.kept ∧ x'.kept.Perm (TL.rm x.kept o) ∧
    x'.a.length + x'.b.length + 1 = x.a.length + x.b.length ∧ x'.a.length + x'.c.length ≤ x.a.length + x.c.length ∧ x'.a.length + x'.b.length + x'.c.length + x'.d.length = x.a.length + x.b.length + x.c.length + x.d.length ∧ ∀ k, k ∈ x'.all ↔ k ∈ x.all := by
  obtain ⟨r, hr, hR⟩ := h.rg
  obtain ⟨na, nb, nc, nd, d1, d2, d3⟩ := all_dj h.nd
  have b1 := h.b1; have b2 := h.b2; have b3 := h.b3; have hn := h.n2
  have l0 := hR.Len (i := 0) (l := x.a) rfl
  have l1 := hR.Len (i := 1) (l := x.b) rfl
  have k0 := hR.BackA (i := 0) (l := x.a) rfl
  have k1 := hR.BackA (i := 1) (l := x.b) rfl
  -- from the first list to the third
  have A : x.a ≠ [] → ∃ o t' x', ((ring_Rings_Back r 0).bind fun r21 => if !r21.2 then some ([], t) else (ring_Rings_Front r 2 r21.1).bind fun r25 => some ([r21.1], (⟨t.most, t.target, (some r25.2)⟩ : arc_Arc))) = some ([o], t') ∧ AR n t' x' ∧ o ∈ x.kept ∧ x'.kept.Perm (TL.rm x.kept o) ∧
      x'.a.length + x'.b.length + 1 = x.a.length + x.b.length ∧ x'.a.length + x'.c.length ≤ x.a.length + x.c.length ∧ x'.a.length + x'.b.length + x'.c.length + x'.d.length = x.a.length + x.b.length + x.c.length + x.d.length ∧ ∀ k, k ∈ x'.all ↔ k ∈ x.all := by
    intro hna
    have om := List.getLast_mem hna
    rw [List.getLast?_eq_some_getLast hna] at k0
    generalize x.a.getLast hna = o at k0 om
    have oall : o ∈ x.all := mem_all.2 (.inl om)
    obtain ⟨r', e, hR'⟩ := h.front hR (h.kl o oall) (j := 2) (by omega)
    have hR' : RR 4 (2 * n + 1) r' (x.fr2 o).L := hR'
    have ra := rm_len na om
    have rb : TL.rm x.b o = x.b := rm_no (d1 o om).1
    have rc : TL.rm x.c o = x.c := rm_no (d1 o om).2.1
    have rd : TL.rm x.d o = x.d := rm_no (d1 o om).2.2
    rw [show ring_Rings_Back r 0 = _ from k0, Option.bind_some, if_neg (by simp), show ring_Rings_Front r 2 o = _ from e, Option.bind_some]
    have e2 : x.fr2 o = ⟨TL.rm x.a o, x.b, o :: x.c, x.d⟩ := by unfold AL.fr2; rw [rb, rc, rd]
    rw [e2] at hR'
    refine ⟨o, _, ⟨TL.rm x.a o, x.b, o :: x.c, x.d⟩, rfl, ⟨h.n1, h.n2, h.ms, h.tg, ⟨r', rfl, hR'⟩, ?_, ?_, ?_⟩, mem_kept.2 (.inl om), ?_, ?_, ?_, ?_, fun k => ?_⟩
    · dsimp only; omega
    · simp only [List.length_cons]; omega
    · simp only [List.length_cons]; omega
    · show (TL.rm x.a o ++ x.b).Perm _
      unfold AL.kept; rw [rm_app, rb]
    · dsimp only; omega
    · simp only [List.length_cons]; omega
    · simp only [List.length_cons]; omega
    · rw [mem_all, mem_all]
      simp only [List.mem_cons, rm_mem]
      by_cases ek : k = o
      · subst ek; simp [om]
      · simp [ek]
  have B : x.b ≠ [] → ∃ o t' x', ((ring_Rings_Back r 1).bind fun r21 => if !r21.2 then some ([], t) else (ring_Rings_Front r 3 r21.1).bind fun r25 => some ([r21.1], (⟨t.most, t.target, (some r25.2)⟩ : arc_Arc))) = some ([o], t') ∧ AR n t' x' ∧ o ∈ x.kept ∧ x'.kept.Perm (TL.rm x.kept o) ∧
      x'.a.length + x'.b.length + 1 = x.a.length + x.b.length ∧ x'.a.length + x'.c.length ≤ x.a.length + x.c.length ∧ x'.a.length + x'.b.length + x'.c.length + x'.d.length = x.a.length + x.b.length + x.c.length + x.d.length ∧ ∀ k, k ∈ x'.all ↔ k ∈ x.all := by
    intro hnb
    have om := List.getLast_mem hnb
    rw [List.getLast?_eq_some_getLast hnb] at k1
    generalize x.b.getLast hnb = o at k1 om
    have oall : o ∈ x.all := mem_all.2 (.inr (.inl om))
    obtain ⟨r', e, hR'⟩ := h.front hR (h.kl o oall) (j := 3) (by omega)
    have hR' : RR 4 (2 * n + 1) r' (x.fr3 o).L := hR'
    have rbl := rm_len nb om
    have ra : TL.rm x.a o = x.a := rm_no (fun z => (d1 o z).1 om)
    have rc : TL.rm x.c o = x.c := rm_no (d2 o om).1
    have rd : TL.rm x.d o = x.d := rm_no (d2 o om).2
    rw [show ring_Rings_Back r 1 = _ from k1, Option.bind_some, if_neg (by simp), show ring_Rings_Front r 3 o = _ from e, Option.bind_some]
    have e2 : x.fr3 o = ⟨x.a, TL.rm x.b o, x.c, o :: x.d⟩ := by unfold AL.fr3; rw [ra, rc, rd]
    rw [e2] at hR'
    refine ⟨o, _, ⟨x.a, TL.rm x.b o, x.c, o :: x.d⟩, rfl, ⟨h.n1, h.n2, h.ms, h.tg, ⟨r', rfl, hR'⟩, ?_, ?_, ?_⟩, mem_kept.2 (.inr om), ?_, ?_, ?_, ?_, fun k => ?_⟩
    · dsimp only; omega
    · dsimp only; omega
    · simp only [List.length_cons]; omega
    · show (x.a ++ TL.rm x.b o).Perm _
      unfold AL.kept; rw [rm_app, ra]
    · dsimp only; omega
    · dsimp only; omega
    · simp only [List.length_cons]; omega
    · rw [mem_all, mem_all]
      simp only [List.mem_cons, rm_mem]
      by_cases ek : k = o
      · subst ek; simp [om]
      · simp [ek]
  unfold arc_Arc_replace
  rw [hr, om_some, show ring_Rings_Len r 0 = _ from l0, Option.bind_some]
  by_cases ha : x.a = []
  · have hb : x.b ≠ [] := by intro q; apply hne; unfold AL.kept; rw [ha, q]; rfl
    rw [if_neg (by rw [ha]; decide), Option.bind_some, if_neg (by decide), Option.bind_some]
    exact B hb
  · have hap : 0 < x.a.length := List.length_pos_iff.2 ha
    rw [if_pos (by simpa using hap)]
    by_cases c1 : (decide (t.target < (x.a.length : Int)) || (w && ((x.a.length : Int) == t.target))) = true
    · rw [if_pos c1, Option.bind_some, Option.bind_some, if_pos rfl, Option.bind_some]
      exact A ha
    · rw [if_neg c1, show ring_Rings_Len r 1 = _ from l1, Option.bind_some, Option.bind_some, Option.bind_some]
      by_cases hb : x.b = []
      · rw [if_pos (by rw [hb]; rfl), Option.bind_some]
        exact A ha
      · have hbp : 0 < x.b.length := List.length_pos_iff.2 hb
        rw [if_neg (by simp; omega), Option.bind_some]
        exact B hb
end
end Go.Proofs.YtpanhdnglicknaaGreat.Pure
