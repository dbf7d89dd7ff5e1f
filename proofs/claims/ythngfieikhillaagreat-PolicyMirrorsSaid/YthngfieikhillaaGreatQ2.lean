import Derived.Test.YthngfieikhillaaGreatW4
import Derived.Test.YthngfieikhillaaGreatQ0
import Derived.Test.YthngfieikhillaaGreatQ1
set_option linter.unusedVariables false
set_option linter.unusedSectionVars false
set_option linter.unusedSimpArgs false
set_option maxRecDepth 100000
set_option maxHeartbeats 8000000
namespace Go.Proofs.YthngfieikhillaaGreat.Pure
open Go Go.Proofs.YthngfieikhillaaGreat.Hw Go.Proofs.YthngfieikhillaaGreat
structure AL where
 a : List Str
 b : List Str
 c : List Str
 d : List Str
namespace AL
abbrev L (x : AL) : List (List Str) := [x.a, x.b, x.c, x.d]
def all (x : AL) : List Str := x.a ++ (x.b ++ (x.c ++ x.d))
def kept (x : AL) : List Str := x.a ++ x.b
def drop (x : AL) (k : Str) : AL := ⟨TL.rm x.a k, TL.rm x.b k, TL.rm x.c k, TL.rm x.d k⟩
def fr0 (x : AL) (k : Str) : AL := ⟨k :: TL.rm x.a k, TL.rm x.b k, TL.rm x.c k, TL.rm x.d k⟩
def fr1 (x : AL) (k : Str) : AL := ⟨TL.rm x.a k, k :: TL.rm x.b k, TL.rm x.c k, TL.rm x.d k⟩
def fr2 (x : AL) (k : Str) : AL := ⟨TL.rm x.a k, TL.rm x.b k, k :: TL.rm x.c k, TL.rm x.d k⟩
def fr3 (x : AL) (k : Str) : AL := ⟨TL.rm x.a k, TL.rm x.b k, TL.rm x.c k, k :: TL.rm x.d k⟩
end AL
theorem afl (x : AL) : x.L.flatten = x.all := by simp [AL.L, AL.all]
structure AR (n : Nat) (t : Al) (x : AL) : Prop where
 n1 : 1 ≤ n
 n2 : n ≤ 400
 ms : t.most = (n : Int)
 tg : 0 ≤ t.target ∧ t.target ≤ (n : Int)
 rg : ∃ r, t.r = some r ∧ RR 4 (2 * n + 1) r x.L
 b1 : x.a.length + x.b.length ≤ n
 b2 : x.a.length + x.c.length ≤ n
 b3 : x.a.length + x.b.length + x.c.length + x.d.length ≤ 2 * n
abbrev AD (n : Nat) (g : Int) (x : AL) : Aa := ⟨(n : Int), g, ⟨x.L, ((2 * n + 1 : Nat) : Int)⟩⟩
section
variable {n : Nat} {t : Al} {x : AL} {g : Int} {k : Str}
theorem AR.nd (h : AR n t x) : x.all.Nodup := by
 obtain ⟨r, _, hr⟩ := h.rg; have := hr.nd; rw [afl] at this; exact this
theorem AR.kl (h : AR n t x) : ∀ k ∈ x.all, k.length ≤ 64 := by
 obtain ⟨r, _, hr⟩ := h.rg; have := hr.kl; rw [afl] at this; exact this
theorem mem_all {x : AL} {k : Str} : k ∈ x.all ↔ k ∈ x.a ∨ k ∈ x.b ∨ k ∈ x.c ∨ k ∈ x.d := by unfold AL.all; simp
theorem mem_kept {x : AL} {k : Str} : k ∈ x.kept ↔ k ∈ x.a ∨ k ∈ x.b := by unfold AL.kept; simp
theorem all_dj {x : AL} (h : x.all.Nodup) : x.a.Nodup ∧ x.b.Nodup ∧ x.c.Nodup ∧ x.d.Nodup ∧ (∀ k ∈ x.a, k ∉ x.b ∧ k ∉ x.c ∧ k ∉ x.d) ∧ (∀ k ∈ x.b, k ∉ x.c ∧ k ∉ x.d) ∧ ∀ k ∈ x.c, k ∉ x.d := by
 unfold AL.all at h
 rw [List.nodup_append, List.nodup_append, List.nodup_append] at h
 obtain ⟨h1, ⟨h2, ⟨h3, h4, h5⟩, h6⟩, h7⟩ := h
 refine ⟨h1, h2, h3, h4, fun k hk => ⟨fun q => h7 k hk k (by simp [q]) rfl, fun q => h7 k hk k (by simp [q]) rfl, fun q => h7 k hk k (by simp [q]) rfl⟩, fun k hk => ⟨fun q => h6 k hk k (by simp [q]) rfl, fun q => h6 k hk k (by simp [q]) rfl⟩, fun k hk q => h5 k hk k q rfl⟩
theorem AR.Has (h : AR n t x) (k : Str) : CL t k = some (decide (k ∈ x.kept)) := by
 obtain ⟨r, hr, hR⟩ := h.rg
 obtain ⟨_, _, _, _, d1, d2, d3⟩ := all_dj h.nd
 unfold CL
 rw [hr, om_some]
 by_cases ha : k ∈ x.a
 ·rw [hR.in_some (i := 0) rfl ha, Option.bind_some]; simp [mem_kept, ha]
 ·by_cases hb : k ∈ x.b
  ·rw [hR.in_some (i := 1) rfl hb, Option.bind_some]; simp [mem_kept, hb]
  ·by_cases hc : k ∈ x.c
   ·rw [hR.in_some (i := 2) rfl hc, Option.bind_some]; simp [mem_kept, ha, hb]
   ·by_cases hd : k ∈ x.d
    ·rw [hR.in_some (i := 3) rfl hd, Option.bind_some]; simp [mem_kept, ha, hb]
    ·rw [hR.in_none (by rw [afl, mem_all]; simp [ha, hb, hc, hd]), Option.bind_some]; simp [mem_kept, ha, hb]
theorem AR.Len (h : AR n t x) : B0 t = some ((x.a.length + x.b.length : Nat) : Int) := by
 obtain ⟨r, hr, hR⟩ := h.rg
 have := h.b1
 have := h.n2
 have l0 := hR.Len (i := 0) (l := x.a) rfl
 have l1 := hR.Len (i := 1) (l := x.b) rfl
 unfold B0
 rw [hr, om_some, show Aq r 0 = _ from l0, Option.bind_some, show Aq r 1 = _ from l1, Option.bind_some, i64s _ (by omega) (by omega)]
 congr 1
theorem AR.front (h : AR n t x) {r : Ae} (hR : RR 4 (2 * n + 1) r x.L) {k : Str} (h64 : k.length ≤ 64) {j : Nat} (hj : j < 4) : ∃ r', Aw r (j : Int) k = some (true, r') ∧ RR 4 (2 * n + 1) r' (frK x.L j k) := by
 have := h.n2
 have := h.b3
 exact hR.frontA (by omega) h64 (.inr (by rw [afl]; unfold AL.all; simp; omega)) hj
theorem AR.gone (h : AR n t x) {r : Ae} {k : Str} (hR : RR 4 (2 * n + 1) r (x.drop k).L) : AR n ⟨t.most, t.target, some r⟩ (x.drop k) := by
 have la := rm_le x.a k; have lb := rm_le x.b k; have lc := rm_le x.c k; have ld := rm_le x.d k
 have b1 := h.b1; have b2 := h.b2; have b3 := h.b3
 refine ⟨h.n1, h.n2, h.ms, h.tg, ⟨r, rfl, hR⟩, ?_, ?_, ?_⟩
 ·show (TL.rm x.a k).length + (TL.rm x.b k).length ≤ n; omega
 ·show (TL.rm x.a k).length + (TL.rm x.c k).length ≤ n; omega
 ·show (TL.rm x.a k).length + (TL.rm x.b k).length + (TL.rm x.c k).length + (TL.rm x.d k).length ≤ 2 * n; omega
theorem AR.hb (h : AR n t x) : ∀ l ∈ x.L, l.length ≤ 1000 := by
 intro l hl
 have h1 := h.n2; have h3 := h.b3
 simp only [AL.L, List.mem_cons, List.not_mem_nil, or_false] at hl
 rcases hl with rfl | rfl | rfl | rfl <;> omega
theorem AR.fll (h : AR n t x) : x.L.flatten.length ≤ 2 * n := by
 have h3 := h.b3
 rw [afl]; unfold AL.all; simp only [List.length_append]; omega
theorem AR.dIn (h : AR n t x) (p : Int) (k : Str) : AG ⟨x.L, p⟩ k = some (if k ∈ x.a then (0, true) else if k ∈ x.b then (1, true) else if k ∈ x.c then (2, true) else if k ∈ x.d then (3, true) else (0, false)) := by
 rw [rin h.hb (by simp)]
 simp only [inK]
 by_cases h1 : k ∈ x.a
 ·simp [h1]
 ·by_cases h2 : k ∈ x.b
  ·simp [h1, h2]
  ·by_cases h3 : k ∈ x.c
   ·simp [h1, h2, h3]
   ·by_cases h4 : k ∈ x.d
    ·simp [h1, h2, h3, h4]
    ·simp [h1, h2, h3, h4]
theorem AR.dHas (h : AR n t x) (k : Str) : A7 (AD n g x) k = some (decide (k ∈ x.kept)) := by
 unfold A7
 rw [h.dIn, Option.bind_some]
 by_cases h1 : k ∈ x.a
 ·simp [h1, mem_kept]
 ·by_cases h2 : k ∈ x.b
  ·simp [h1, h2, mem_kept]
  ·by_cases h3 : k ∈ x.c
   ·simp [h1, h2, h3, mem_kept]
   ·by_cases h4 : k ∈ x.d
    ·simp [h1, h2, h3, h4, mem_kept]
    ·simp [h1, h2, h3, h4, mem_kept]
theorem dlen (i : Int) {l : List Str} (hl : gi x.L i = some l) : Au (AD n g x) i = some (l.length : Int) := by
 unfold Au
 rw [show gi (AD n g x).R.L i = some l from hl, Option.bind_some]
theorem AR.dLen (h : AR n t x) : AF (AD n g x) = some ((x.a.length + x.b.length : Nat) : Int) := by
 have := h.b1
 have := h.n2
 unfold AF
 rw [dlen (l := x.a) 0 rfl, Option.bind_some, dlen (l := x.b) 1 rfl, Option.bind_some, i64s _ (by omega) (by omega)]
 congr 1
theorem AR.dfront (h : AR n t x) (h64 : k.length ≤ 64) {j : Nat} (hj : j < 4) : Av (AD n g x) (j : Int) k = some ⟨(n : Int), g, ⟨frK x.L j k, ((2 * n + 1 : Nat) : Int)⟩⟩ := by
 have h1 := h.fll
 have h2 := h.n2
 unfold Av
 rw [show AP (AD n g x).R (j : Int) k = _ from rfront (i := j) h.hb (by simp) (by omega) (by simp; omega) h64 (.inr (by omega)), Option.bind_some]
theorem AR.dback (h : AR n t x) {i : Nat} {l : List Str} (hl : x.L[i]? = some l) (p : Int) : Ar ⟨x.L, p⟩ (i : Int) = some (match l.getLast? with | some k => (k, true) | none => ([], false)) :=
 rback hl (h.hb l (List.mem_of_getElem? hl))
theorem AR.ddrop (h : AR n t x) (k : Str) (p : Int) : Az ⟨x.L, p⟩ k = some ⟨(x.drop k).L, p⟩ := by
 rw [rdrop h.hb (by simp)]; rfl
theorem AR.touch (h : AR n t x) {k : Str} (hk : k ∈ x.kept) : ∃ t' x', Ce t k = some (true, t') ∧ Av (AD n t.target x) 1 k = some (AD n t'.target x') ∧ AR n t' x' := by
 obtain ⟨r, hr, hR⟩ := h.rg
 obtain ⟨na, nb, nc, nd, d1, d2, d3⟩ := all_dj h.nd
 have hall : k ∈ x.all := mem_all.2 ((mem_kept.1 hk).imp id .inl)
 obtain ⟨r', e, hR'⟩ := h.front hR (h.kl k hall) (j := 1) (by omega)
 have hR' : RR 4 (2 * n + 1) r' (x.fr1 k).L := hR'
 have e2 := h.dfront (g := t.target) (h.kl k hall) (j := 1) (by omega)
 unfold Ce
 rw [h.Has, Option.bind_some, if_neg (by simp [hk]), hr, om_some, show Aw r 1 k = _ from e, Option.bind_some]
 have lc := rm_le x.c k
 have ld := rm_le x.d k
 have b1 := h.b1; have b2 := h.b2; have b3 := h.b3
 have la := rm_le x.a k
 have hs : (TL.rm x.a k).length + (TL.rm x.b k).length + 1 = x.a.length + x.b.length := by
  rcases mem_kept.1 hk with q | q
  ·have := rm_len na q; rw [rm_no (d1 k q).1]; omega
  ·have := rm_len nb q; rw [rm_no (fun z => (d1 k z).1 q)]; omega
 refine ⟨_, x.fr1 k, rfl, e2, ⟨h.n1, h.n2, h.ms, h.tg, ⟨r', rfl, hR'⟩, ?_, ?_, ?_⟩⟩
 ·show (TL.rm x.a k).length + (k :: TL.rm x.b k).length ≤ n; simp; omega
 ·show (TL.rm x.a k).length + (TL.rm x.c k).length ≤ n; omega
 ·show (TL.rm x.a k).length + (k :: TL.rm x.b k).length + (TL.rm x.c k).length + (TL.rm x.d k).length ≤ 2 * n; simp; omega
theorem AR.touch_no (h : AR n t x) {k : Str} (hk : k ∉ x.kept) : Ce t k = some (false, t) := by
 unfold Ce
 rw [h.Has, Option.bind_some, if_pos (by simp [hk])]
theorem AR.dtouch (h : AR n t x) (k : Str) : ∃ t' x', Ce t k = some (decide (k ∈ x.kept), t') ∧ B3 (AD n t.target x) k = some (AD n t'.target x', decide (k ∈ x.kept)) ∧ AR n t' x' := by
 unfold B3
 rw [h.dHas, Option.bind_some]
 by_cases hk : k ∈ x.kept
 ·obtain ⟨t', x', e1, e2, h'⟩ := h.touch hk
  rw [if_neg (by simp [hk]), e2, Option.bind_some, decide_eq_true hk]
  exact ⟨t', x', e1, rfl, h'⟩
 ·rw [if_pos (by simp [hk]), decide_eq_false hk]
  exact ⟨t, x, h.touch_no hk, rfl, h⟩
theorem AR.dremove (h : AR n t x) (k : Str) : ∃ t' x', C4 t k = some (decide (k ∈ x.kept), t') ∧ BV (AD n t.target x) k = some (AD n t'.target x', decide (k ∈ x.kept)) ∧ AR n t' x' := by
 obtain ⟨r, hr, hR⟩ := h.rg
 have := h.n2
 obtain ⟨r', e, hR'⟩ := hR.dropA (by omega) (by omega) k
 unfold C4 BV
 rw [h.Has, Option.bind_some, hr, om_some, e, Option.bind_some, h.dHas, Option.bind_some, show Az (AD n t.target x).R k = _ from h.ddrop k _, Option.bind_some]
 exact ⟨_, x.drop k, rfl, rfl, h.gone (x := x) hR'⟩
def Rep (n : Nat) (t : Al) (x : AL) (e : Option (List Str × Al)) (f : Option (Aa × List Str)) : Prop :=
 ∃ o t' x', e = some ([o], t') ∧ f = some (AD n t.target x', [o]) ∧ t'.target = t.target ∧ AR n t' x' ∧ x'.a.length + x'.b.length + 1 = x.a.length + x.b.length ∧ x'.a.length + x'.c.length ≤ x.a.length + x.c.length ∧
  x'.a.length + x'.b.length + x'.c.length + x'.d.length = x.a.length + x.b.length + x.c.length + x.d.length ∧ (∀ k, k ∈ x'.all ↔ k ∈ x.all) ∧ ∀ k, k ∈ x'.kept → k ∈ x.kept
theorem AR.repA (h : AR n t x) {r : Ae} (hr : t.r = some r) (hR : RR 4 (2 * n + 1) r x.L) (hna : x.a ≠ []) :
  Rep n t x ((Ay r 0).bind fun r21 => if !r21.2 then some ([], t) else (Aw r 2 r21.1).bind fun r25 => some ([r21.1], (⟨t.most, t.target, (some r25.2)⟩ : Al)))
   ((Ar (AD n t.target x).R 0).bind fun r12 => if !r12.2 then some (AD n t.target x, []) else (Av (AD n t.target x) (i64 (0 + 2)) r12.1).bind fun r16 => some (r16, [r12.1])) := by
 obtain ⟨na, nb, nc, nd, d1, d2, d3⟩ := all_dj h.nd
 have b1 := h.b1; have b2 := h.b2; have b3 := h.b3; have hn := h.n2
 have k0 := hR.BackA (i := 0) (l := x.a) rfl
 have q0 := h.dback (i := 0) (l := x.a) rfl ((2 * n + 1 : Nat) : Int)
 have om := List.getLast_mem hna
 rw [List.getLast?_eq_some_getLast hna] at k0 q0
 generalize x.a.getLast hna = o at k0 q0 om
 have oall : o ∈ x.all := mem_all.2 (.inl om)
 obtain ⟨r', e, hR'⟩ := h.front hR (h.kl o oall) (j := 2) (by omega)
 have hR' : RR 4 (2 * n + 1) r' (x.fr2 o).L := hR'
 have q1 := h.dfront (g := t.target) (h.kl o oall) (j := 2) (by omega)
 have ra := rm_len na om
 have rb : TL.rm x.b o = x.b := rm_no (d1 o om).1
 have rc : TL.rm x.c o = x.c := rm_no (d1 o om).2.1
 have rd : TL.rm x.d o = x.d := rm_no (d1 o om).2.2
 rw [show Ay r 0 = _ from k0, Option.bind_some, if_neg (by simp), show Aw r 2 o = _ from e, Option.bind_some,
  show Ar (AD n t.target x).R 0 = _ from q0, Option.bind_some, if_neg (by simp), show i64 (0 + 2) = ((2 : Nat) : Int) from rfl, q1, Option.bind_some]
 have e2 : x.fr2 o = ⟨TL.rm x.a o, x.b, o :: x.c, x.d⟩ := by unfold AL.fr2; rw [rb, rc, rd]
 have e3 : frK x.L 2 o = AL.L ⟨TL.rm x.a o, x.b, o :: x.c, x.d⟩ := by rw [← e2]; rfl
 rw [e2] at hR'
 refine ⟨o, _, ⟨TL.rm x.a o, x.b, o :: x.c, x.d⟩, rfl, by rw [e3], rfl, ⟨h.n1, h.n2, h.ms, h.tg, ⟨r', rfl, hR'⟩, ?_, ?_, ?_⟩, ?_, ?_, ?_, fun k => ?_, fun k hk => ?_⟩
 ·dsimp only; omega
 ·simp only [List.length_cons]; omega
 ·simp only [List.length_cons]; omega
 ·dsimp only; omega
 ·simp only [List.length_cons]; omega
 ·simp only [List.length_cons]; omega
 ·rw [mem_all, mem_all]
  simp only [List.mem_cons, rm_mem]
  by_cases ek : k = o
  ·subst ek; simp [om]
  ·simp [ek]
 ·rw [mem_kept] at hk ⊢
  exact hk.imp (fun q => (rm_mem.1 q).1) id
theorem AR.repB (h : AR n t x) {r : Ae} (hr : t.r = some r) (hR : RR 4 (2 * n + 1) r x.L) (hnb : x.b ≠ []) :
  Rep n t x ((Ay r 1).bind fun r21 => if !r21.2 then some ([], t) else (Aw r 3 r21.1).bind fun r25 => some ([r21.1], (⟨t.most, t.target, (some r25.2)⟩ : Al)))
   ((Ar (AD n t.target x).R 1).bind fun r12 => if !r12.2 then some (AD n t.target x, []) else (Av (AD n t.target x) (i64 (1 + 2)) r12.1).bind fun r16 => some (r16, [r12.1])) := by
 obtain ⟨na, nb, nc, nd, d1, d2, d3⟩ := all_dj h.nd
 have b1 := h.b1; have b2 := h.b2; have b3 := h.b3; have hn := h.n2
 have k1 := hR.BackA (i := 1) (l := x.b) rfl
 have q0 := h.dback (i := 1) (l := x.b) rfl ((2 * n + 1 : Nat) : Int)
 have om := List.getLast_mem hnb
 rw [List.getLast?_eq_some_getLast hnb] at k1 q0
 generalize x.b.getLast hnb = o at k1 q0 om
 have oall : o ∈ x.all := mem_all.2 (.inr (.inl om))
 obtain ⟨r', e, hR'⟩ := h.front hR (h.kl o oall) (j := 3) (by omega)
 have hR' : RR 4 (2 * n + 1) r' (x.fr3 o).L := hR'
 have q1 := h.dfront (g := t.target) (h.kl o oall) (j := 3) (by omega)
 have rbl := rm_len nb om
 have ra : TL.rm x.a o = x.a := rm_no (fun z => (d1 o z).1 om)
 have rc : TL.rm x.c o = x.c := rm_no (d2 o om).1
 have rd : TL.rm x.d o = x.d := rm_no (d2 o om).2
 rw [show Ay r 1 = _ from k1, Option.bind_some, if_neg (by simp), show Aw r 3 o = _ from e, Option.bind_some,
  show Ar (AD n t.target x).R 1 = _ from q0, Option.bind_some, if_neg (by simp), show i64 (1 + 2) = ((3 : Nat) : Int) from rfl, q1, Option.bind_some]
 have e2 : x.fr3 o = ⟨x.a, TL.rm x.b o, x.c, o :: x.d⟩ := by unfold AL.fr3; rw [ra, rc, rd]
 have e3 : frK x.L 3 o = AL.L ⟨x.a, TL.rm x.b o, x.c, o :: x.d⟩ := by rw [← e2]; rfl
 rw [e2] at hR'
 refine ⟨o, _, ⟨x.a, TL.rm x.b o, x.c, o :: x.d⟩, rfl, by rw [e3], rfl, ⟨h.n1, h.n2, h.ms, h.tg, ⟨r', rfl, hR'⟩, ?_, ?_, ?_⟩, ?_, ?_, ?_, fun k => ?_, fun k hk => ?_⟩
 ·dsimp only; omega
 ·dsimp only; omega
 ·simp only [List.length_cons]; omega
 ·dsimp only; omega
 ·dsimp only; omega
 ·simp only [List.length_cons]; omega
 ·rw [mem_all, mem_all]
  simp only [List.mem_cons, rm_mem]
  by_cases ek : k = o
  ·subst ek; simp [om]
  ·simp [ek]
 ·rw [mem_kept] at hk ⊢
  exact hk.imp id fun q => (rm_mem.1 q).1
theorem AR.replace (h : AR n t x) (w : Bool) (hne : x.kept ≠ []) : Rep n t x (Bt t w) (AE (AD n t.target x) w) := by
 obtain ⟨r, hr, hR⟩ := h.rg
 have l0 := hR.Len (i := 0) (l := x.a) rfl
 have l1 := hR.Len (i := 1) (l := x.b) rfl
 have A := h.repA hr hR
 have B := h.repB hr hR
 unfold Bt AE
 rw [hr, om_some, show Aq r 0 = _ from l0, Option.bind_some, dlen (l := x.a) 0 rfl, Option.bind_some]
 dsimp only
 by_cases ha : x.a = []
 ·have hb : x.b ≠ [] := by intro q; apply hne; unfold AL.kept; rw [ha, q]; rfl
  rw [if_neg (by rw [ha]; decide), if_neg (by rw [ha]; decide)]
  simp only [Option.bind_some, Bool.false_eq_true, if_false]
  exact B hb
 ·have hap : 0 < x.a.length := List.length_pos_iff.2 ha
  have hp : decide ((0 : Int) < (x.a.length : Int)) = true := by simpa using hap
  rw [if_pos hp, if_pos hp]
  have hdec : (Option.bind (if decide (t.target < (x.a.length : Int)) then some true else Option.bind (if w then Option.bind (if ((x.a.length : Int) == t.target) then some true else (Au (AD n t.target x) 1).bind fun r47 => some (r47 == 0)) fun p41 => some p41 else (Au (AD n t.target x) 1).bind fun r49 => some (r49 == 0)) fun p35 => some p35) fun p29 => some p29) =
    some ((decide (t.target < (x.a.length : Int)) || (w && ((x.a.length : Int) == t.target))) || ((x.b.length : Int) == 0)) := by
   rw [dlen (l := x.b) 1 rfl]
   cases decide (t.target < (x.a.length : Int)) <;> cases w <;> cases ((x.a.length : Int) == t.target) <;> rfl
  rw [hdec, Option.bind_some]
  by_cases c1 : (decide (t.target < (x.a.length : Int)) || (w && ((x.a.length : Int) == t.target))) = true
  ·rw [if_pos c1, c1]
   simp only [Option.bind_some, if_true, Bool.true_or]
   exact A ha
  ·rw [if_neg c1, show Aq r 1 = _ from l1, eq_false_of_ne_true c1, Bool.false_or]
   by_cases hb : x.b = []
   ·rw [hb]
    simp only [Option.bind_some, List.length_nil]
    exact A ha
   ·have hbp : ((x.b.length : Int) == 0) = false := by
     have : 0 < x.b.length := List.length_pos_iff.2 hb
     simp; omega
    simp only [Option.bind_some, hbp, Bool.false_eq_true, if_false]
    exact B hb
theorem AR.devict (h : AR n t x) : ∃ o b t' x', Dd t = some (o, b, t') ∧ B4 (AD n t.target x) = some (AD n t'.target x', o, b) ∧ AR n t' x' := by
 unfold Dd B4
 rw [h.Len, Option.bind_some, h.dLen, Option.bind_some]
 by_cases hk : x.kept = []
 ·have := congrArg List.length hk
  unfold AL.kept at this
  simp at this
  rw [this.1, this.2]
  exact ⟨[], false, t, x, rfl, rfl, h⟩
 ·have : x.a.length + x.b.length ≠ 0 := by
   intro q; apply hk; unfold AL.kept
   rw [List.length_eq_zero_iff.1 (show x.a.length = 0 by omega), List.length_eq_zero_iff.1 (show x.b.length = 0 by omega)]; rfl
  rw [if_neg (by simp; omega), if_neg (by simp; omega)]
  obtain ⟨o, t', x', e1, e2, e3, h', _⟩ := h.replace false hk
  rw [e1, e2, Option.bind_some, Option.bind_some]
  exact ⟨o, true, t', x', rfl, by rw [e3]; rfl, h'⟩
end
end Go.Proofs.YthngfieikhillaaGreat.Pure
namespace Go.Proofs.YthngfieikhillaaGreat.Pure
open Go Go.Proofs.YthngfieikhillaaGreat.Hw Go.Proofs.YthngfieikhillaaGreat
def dTgt (a0 : Aa) (r17 r21 r23 : Int) : Option Int :=
 if (r17 == 2) then if r21 ≠ 0 then Option.bind (if decide ((i64 (r23.tdiv r21)) < 1) then some 1 else some (i64 (r23.tdiv r21))) fun p65 => Option.bind (if decide (a0.Most < (i64 (a0.Target + p65))) then some a0.Most else some (i64 (a0.Target + p65))) fun p69 => some p69 else none else if r23 ≠ 0 then Option.bind (if decide ((i64 (r21.tdiv r23)) < 1) then some 1 else some (i64 (r21.tdiv r23))) fun p79 => Option.bind (if decide ((i64 (a0.Target - p79)) < 0) then some 0 else some (i64 (a0.Target - p79))) fun p83 => some p83 else none
def dAg2 (a0 : Aa) (a1 : Str) (r17 p25 : Int) : Option (Aa × List Str) :=
 (AF (⟨a0.Most, p25, a0.R⟩ : Aa)).bind fun r29 => Option.bind (if decide (a0.Most ≤ r29) then (AE (⟨a0.Most, p25, a0.R⟩ : Aa) (r17 == 3)).bind fun r52 => some (r52.2, r52.1) else some ([], (⟨a0.Most, p25, a0.R⟩ : Aa))) fun p31 => (Av p31.2 1 a1).bind fun r42 => some (r42, p31.1)
def dAgain (a0 : Aa) (a1 : Str) (r17 : Int) : Option (Aa × List Str) :=
 (Au a0 2).bind fun r21 => (Au a0 3).bind fun r23 => (dTgt a0 r17 r21 r23).bind fun p25 => dAg2 a0 a1 r17 p25
section
variable {n : Nat} {t : Al} {x : AL} {g : Int} {k : Str}
theorem AR.dforget (h : AR n t x) {i : Nat} {l : List Str} (hl : x.L[i]? = some l) : AN (AD n g x) (i : Int) = some (AD n g (match l.getLast? with | some o => x.drop o | none => x)) := by
 unfold AN
 rw [show Ar (AD n g x).R (i : Int) = _ from h.dback hl _, Option.bind_some]
 cases l.getLast? with
 | none => rfl
 | some o =>
  dsimp only
  rw [if_pos rfl, h.ddrop o, Option.bind_some]
theorem AR.forget2 (h : AR n t x) : ∃ t' x', Cf t 2 = some t' ∧ AN (AD n t.target x) 2 = some (AD n t'.target x') ∧ AR n t' x' ∧ x'.a = x.a ∧ x'.b = x.b ∧ x'.d = x.d ∧ x'.c.length = x.c.length - 1 ∧ ∀ k, k ∈ x'.all → k ∈ x.all := by
 obtain ⟨r, hr, hR⟩ := h.rg
 obtain ⟨na, nb, nc, nd, d1, d2, d3⟩ := all_dj h.nd
 have hn := h.n2
 have k2 := hR.BackA (i := 2) (l := x.c) rfl
 have q := h.dforget (g := t.target) (i := 2) (l := x.c) rfl
 unfold Cf
 rw [hr, om_some]
 by_cases hc : x.c = []
 ·rw [hc] at k2 q
  rw [show Ay r 2 = _ from k2, Option.bind_some, if_neg (by simp)]
  exact ⟨t, x, rfl, q, h, rfl, rfl, rfl, by rw [hc]; rfl, fun _ q => q⟩
 ·have om := List.getLast_mem hc
  rw [List.getLast?_eq_some_getLast hc] at k2 q
  generalize x.c.getLast hc = o at k2 om q
  obtain ⟨r', e, hR'⟩ := hR.dropA (by omega) (by omega) o
  rw [show Ay r 2 = _ from k2, Option.bind_some, if_pos rfl, e, Option.bind_some]
  have rl := rm_len nc om
  refine ⟨_, x.drop o, rfl, q, h.gone (x := x) hR', rm_no (fun z => (d1 o z).2.1 om), rm_no (fun z => (d2 o z).1 om), rm_no (d3 o om), ?_, fun k hk => ?_⟩
  ·show (TL.rm x.c o).length = _; omega
  ·rw [mem_all] at hk ⊢
   simp only [AL.drop, rm_mem] at hk
   rcases hk with q | q | q | q
   ·exact .inl q.1
   ·exact .inr (.inl q.1)
   ·exact .inr (.inr (.inl q.1))
   ·exact .inr (.inr (.inr q.1))
theorem AR.forget3 (h : AR n t x) : ∃ t' x', Cf t 3 = some t' ∧ AN (AD n t.target x) 3 = some (AD n t'.target x') ∧ AR n t' x' ∧ x'.a = x.a ∧ x'.b = x.b ∧ x'.c = x.c ∧ x'.d.length = x.d.length - 1 ∧ ∀ k, k ∈ x'.all → k ∈ x.all := by
 obtain ⟨r, hr, hR⟩ := h.rg
 obtain ⟨na, nb, nc, nd, d1, d2, d3⟩ := all_dj h.nd
 have hn := h.n2
 have k2 := hR.BackA (i := 3) (l := x.d) rfl
 have q := h.dforget (g := t.target) (i := 3) (l := x.d) rfl
 unfold Cf
 rw [hr, om_some]
 by_cases hc : x.d = []
 ·rw [hc] at k2 q
  rw [show Ay r 3 = _ from k2, Option.bind_some, if_neg (by simp)]
  exact ⟨t, x, rfl, q, h, rfl, rfl, rfl, by rw [hc]; rfl, fun _ q => q⟩
 ·have om := List.getLast_mem hc
  rw [List.getLast?_eq_some_getLast hc] at k2 q
  generalize x.d.getLast hc = o at k2 om q
  obtain ⟨r', e, hR'⟩ := hR.dropA (by omega) (by omega) o
  rw [show Ay r 3 = _ from k2, Option.bind_some, if_pos rfl, e, Option.bind_some]
  have rl := rm_len nd om
  refine ⟨_, x.drop o, rfl, q, h.gone (x := x) hR', rm_no (fun z => (d1 o z).2.2 om), rm_no (fun z => (d2 o z).2 om), rm_no (fun z => d3 o z om), ?_, fun k hk => ?_⟩
  ·show (TL.rm x.d o).length = _; omega
  ·rw [mem_all] at hk ⊢
   simp only [AL.drop, rm_mem] at hk
   rcases hk with q | q | q | q
   ·exact .inl q.1
   ·exact .inr (.inl q.1)
   ·exact .inr (.inr (.inl q.1))
   ·exact .inr (.inr (.inr q.1))
theorem AR.fr0 (h : AR n t x) {k : Str} (hk : k ∉ x.all) (h64 : k.length ≤ 64) (b1 : x.a.length + x.b.length + 1 ≤ n) (b2 : x.a.length + x.c.length + 1 ≤ n) (b3 : x.a.length + x.b.length + x.c.length + x.d.length + 1 ≤ 2 * n) (g : List Str) :
  ∃ t', (om t.r (none) fun x53 => (Aw x53 0 k).bind fun r61 => some (g, (⟨t.most, t.target, (some r61.2)⟩ : Al))) = some (g, t') ∧ t'.target = t.target ∧ AR n t' ⟨k :: x.a, x.b, x.c, x.d⟩ ∧ Av (AD n t.target x) 0 k = some (AD n t.target ⟨k :: x.a, x.b, x.c, x.d⟩) := by
 obtain ⟨r, hr, hR⟩ := h.rg
 obtain ⟨r', e, hR'⟩ := h.front hR h64 (j := 0) (by omega)
 have hR' : RR 4 (2 * n + 1) r' (x.fr0 k).L := hR'
 have q : k ∉ x.a ∧ k ∉ x.b ∧ k ∉ x.c ∧ k ∉ x.d := by rw [mem_all] at hk; simpa using hk
 have e2 : x.fr0 k = ⟨k :: x.a, x.b, x.c, x.d⟩ := by unfold AL.fr0; rw [rm_no q.1, rm_no q.2.1, rm_no q.2.2.1, rm_no q.2.2.2]
 have q2 := h.dfront (g := t.target) h64 (j := 0) (by omega)
 have e3 : frK x.L 0 k = AL.L ⟨k :: x.a, x.b, x.c, x.d⟩ := by rw [← e2]; rfl
 rw [e3] at q2
 rw [e2] at hR'
 rw [hr, om_some, show Aw r 0 k = _ from e, Option.bind_some]
 refine ⟨_, rfl, rfl, ⟨h.n1, h.n2, h.ms, h.tg, ⟨r', rfl, hR'⟩, ?_, ?_, ?_⟩, q2⟩
 ·simp only [List.length_cons]; omega
 ·simp only [List.length_cons]; omega
 ·simp only [List.length_cons]; omega
theorem AR.target (h : AR n t x) {p : Int} (hp : 0 ≤ p ∧ p ≤ (n : Int)) : AR n ⟨t.most, p, t.r⟩ x := ⟨h.n1, h.n2, h.ms, hp, h.rg, h.b1, h.b2, h.b3⟩
theorem tdv {a b : Nat} (hb : 0 < b) (ha : a ≤ 2000) : ∃ q : Nat, i64 ((a : Int).tdiv (b : Int)) = (q : Int) ∧ q ≤ 2000 := by
 refine ⟨a / b, ?_, Nat.le_trans (Nat.div_le_self a b) ha⟩
 have : (a : Int).tdiv (b : Int) = ((a / b : Nat) : Int) := by rw [Int.tdiv_eq_ediv_of_nonneg (by omega)]; exact (Int.natCast_ediv a b).symm
 have h2 : a / b ≤ 2000 := Nat.le_trans (Nat.div_le_self a b) ha
 rw [this]
 generalize a / b = q at h2 ⊢
 rw [i64s _ (by omega) (by omega)]
theorem AR.again (h : AR n t x) {k : Str} (hk : k ∈ x.c ∨ k ∈ x.d) : ∃ g t' x', Dc t k (if k ∈ x.c then 2 else 3) = some (g, t') ∧ dAgain (AD n t.target x) k (if k ∈ x.c then 2 else 3) = some (AD n t'.target x', g) ∧ AR n t' x' ∧ g.length ≤ 1 := by
 obtain ⟨r, hr, hR⟩ := h.rg
 obtain ⟨na, nb, nc, nd, d1, d2, d3⟩ := all_dj h.nd
 have b1 := h.b1; have b2 := h.b2; have b3 := h.b3; have hn := h.n2; have hn1 := h.n1
 have tg := h.tg
 have l2 := hR.Len (i := 2) (l := x.c) rfl
 have l3 := hR.Len (i := 3) (l := x.d) rfl
 have hkall : k ∈ x.all := mem_all.2 (.inr (.inr hk))
 have hkn : k ∉ x.kept := by
  rw [mem_kept]
  rintro (q | q)
  ·rcases hk with z | z
   ·exact (d1 k q).2.1 z
   ·exact (d1 k q).2.2 z
  ·rcases hk with z | z
   ·exact (d2 k q).1 z
   ·exact (d2 k q).2 z
 have k64 := h.kl k hkall
 have T : ∃ p : Int, (if ((if k ∈ x.c then (2 : Int) else 3) == 2) then if (x.c.length : Int) ≠ 0 then some (if (i64 (t.target + (if 1 < (i64 ((x.d.length : Int).tdiv (x.c.length : Int))) then i64 ((x.d.length : Int).tdiv (x.c.length : Int)) else 1))) < t.most then i64 (t.target + (if 1 < (i64 ((x.d.length : Int).tdiv (x.c.length : Int))) then i64 ((x.d.length : Int).tdiv (x.c.length : Int)) else 1)) else t.most) else none
   else if (x.d.length : Int) ≠ 0 then some (if 0 < (i64 (t.target - (if 1 < (i64 ((x.c.length : Int).tdiv (x.d.length : Int))) then i64 ((x.c.length : Int).tdiv (x.d.length : Int)) else 1))) then i64 (t.target - (if 1 < (i64 ((x.c.length : Int).tdiv (x.d.length : Int))) then i64 ((x.c.length : Int).tdiv (x.d.length : Int)) else 1)) else 0) else none) = some p ∧ dTgt (AD n t.target x) (if k ∈ x.c then (2 : Int) else 3) (x.c.length : Int) (x.d.length : Int) = some p ∧ 0 ≤ p ∧ p ≤ (n : Int) := by
  unfold dTgt
  by_cases hc : k ∈ x.c
  ·have hcp : 0 < x.c.length := List.length_pos_of_mem hc
   have z1 : ((2 : Int) == 2) = true := rfl
   have z2 : (x.c.length : Int) ≠ 0 := by omega
   rw [if_pos hc, if_pos z1, if_pos z2, if_pos z1, if_pos z2]
   obtain ⟨q, hq, hq2⟩ := tdv (a := x.d.length) hcp (by omega)
   rw [hq, h.ms]
   dsimp only
   have hs : ∃ s : Nat, (if (1 : Int) < (q : Int) then (q : Int) else 1) = (s : Int) ∧ (if decide ((q : Int) < 1) = true then some (1 : Int) else some (q : Int)) = some (s : Int) ∧ s ≤ 2001 ∧ 1 ≤ s := by
    by_cases c : 1 < q
    ·exact ⟨q, if_pos (by omega), if_neg (by simp; omega), by omega, by omega⟩
    ·by_cases c2 : q = 1
     ·subst c2; exact ⟨1, rfl, rfl, by omega, by omega⟩
     ·exact ⟨1, if_neg (by omega), if_pos (by simp; omega), by omega, by omega⟩
   obtain ⟨s, hs, hs', hs2, hs3⟩ := hs
   rw [hs, hs', Option.bind_some, i64s (t.target + (s : Int)) (by omega) (by omega)]
   by_cases c : t.target + (s : Int) < (n : Int)
   ·rw [if_pos c, if_neg (by simp; omega)]; exact ⟨_, rfl, rfl, by omega, by omega⟩
   ·rw [if_neg c]
    by_cases c2 : (n : Int) < t.target + (s : Int)
    ·rw [if_pos (by simpa using c2)]; exact ⟨_, rfl, rfl, by omega, by omega⟩
    ·rw [if_neg (by simpa using c2)]; exact ⟨_, rfl, by rw [show t.target + (s : Int) = (n : Int) by omega]; rfl, by omega, by omega⟩
  ·have hd := hk.resolve_left hc
   have hdp : 0 < x.d.length := List.length_pos_of_mem hd
   have z1 : ¬ ((3 : Int) == 2) = true := by decide
   have z2 : (x.d.length : Int) ≠ 0 := by omega
   rw [if_neg hc, if_neg z1, if_pos z2, if_neg z1, if_pos z2]
   obtain ⟨q, hq, hq2⟩ := tdv (a := x.c.length) hdp (by omega)
   rw [hq]
   dsimp only
   have hs : ∃ s : Nat, (if (1 : Int) < (q : Int) then (q : Int) else 1) = (s : Int) ∧ (if decide ((q : Int) < 1) = true then some (1 : Int) else some (q : Int)) = some (s : Int) ∧ s ≤ 2001 ∧ 1 ≤ s := by
    by_cases c : 1 < q
    ·exact ⟨q, if_pos (by omega), if_neg (by simp; omega), by omega, by omega⟩
    ·by_cases c2 : q = 1
     ·subst c2; exact ⟨1, rfl, rfl, by omega, by omega⟩
     ·exact ⟨1, if_neg (by omega), if_pos (by simp; omega), by omega, by omega⟩
   obtain ⟨s, hs, hs', hs2, hs3⟩ := hs
   rw [hs, hs', Option.bind_some, i64s (t.target - (s : Int)) (by omega) (by omega)]
   by_cases c : 0 < t.target - (s : Int)
   ·rw [if_pos c, if_neg (by simp; omega)]; exact ⟨_, rfl, rfl, by omega, by omega⟩
   ·rw [if_neg c]
    by_cases c2 : t.target - (s : Int) < 0
    ·rw [if_pos (by simp; omega)]; exact ⟨_, rfl, rfl, by omega, by omega⟩
    ·rw [if_neg (by simp; omega)]; exact ⟨_, rfl, by rw [show t.target - (s : Int) = 0 by omega]; rfl, by omega, by omega⟩
 obtain ⟨p, hp, hpd, hp2⟩ := T
 have FR : ∀ (t' : Al) (x' : AL) (g : List Str), AR n t' x' → k ∈ x'.all → k ∉ x'.kept → x'.a.length + x'.b.length + 1 ≤ n → ∃ t'' x'', (om t'.r (none) fun x30 => (Aw x30 1 k).bind fun r38 => some (g, (⟨t'.most, t'.target, (some r38.2)⟩ : Al))) = some (g, t'') ∧ ((Av (AD n t'.target x') 1 k).bind fun r42 => some (r42, g)) = some (AD n t''.target x'', g) ∧ AR n t'' x'' := by
  intro t' x' g h' hm hkk hb
  obtain ⟨r1, hr1, hR1⟩ := h'.rg
  obtain ⟨r', e, hR'⟩ := h'.front hR1 k64 (j := 1) (by omega)
  have hR' : RR 4 (2 * n + 1) r' (x'.fr1 k).L := hR'
  have q1 := h'.dfront (g := t'.target) k64 (j := 1) (by omega)
  obtain ⟨na', nb', nc', nd', _, _, d3'⟩ := all_dj h'.nd
  have qa : k ∉ x'.a := fun z => hkk (mem_kept.2 (.inl z))
  have qb : k ∉ x'.b := fun z => hkk (mem_kept.2 (.inr z))
  have qcd : k ∈ x'.c ∨ k ∈ x'.d := by rw [mem_all] at hm; simpa [qa, qb] using hm
  rw [hr1, om_some, show Aw r1 1 k = _ from e, Option.bind_some, show Av (AD n t'.target x') 1 k = _ from q1, Option.bind_some]
  have lc := rm_le x'.c k
  have ld := rm_le x'.d k
  have c3 := h'.b3; have c2 := h'.b2
  have hs : (TL.rm x'.c k).length + (TL.rm x'.d k).length + 1 = x'.c.length + x'.d.length := by
   rcases qcd with q | q
   ·have := rm_len nc' q; rw [rm_no (d3' k q)]; omega
   ·have := rm_len nd' q; rw [rm_no (fun z => d3' k z q)]; omega
  refine ⟨_, x'.fr1 k, rfl, rfl, ⟨h'.n1, h'.n2, h'.ms, h'.tg, ⟨r', rfl, hR'⟩, ?_, ?_, ?_⟩⟩
  ·show (TL.rm x'.a k).length + (k :: TL.rm x'.b k).length ≤ n; rw [rm_no qa, rm_no qb]; simp; omega
  ·show (TL.rm x'.a k).length + (TL.rm x'.c k).length ≤ n; rw [rm_no qa]; omega
  ·show (TL.rm x'.a k).length + (k :: TL.rm x'.b k).length + (TL.rm x'.c k).length + (TL.rm x'.d k).length ≤ 2 * n; rw [rm_no qa, rm_no qb]; simp; omega
 unfold Dc dAgain
 rw [hr, om_some, show Aq r 2 = _ from l2, Option.bind_some, show Aq r 3 = _ from l3, Option.bind_some, hp, Option.bind_some, dlen (l := x.c) 2 rfl, Option.bind_some, dlen (l := x.d) 3 rfl, Option.bind_some, hpd, Option.bind_some]
 have hT := h.target hp2
 rw [hr] at hT
 unfold dAg2
 rw [hT.Len, Option.bind_some, h.ms]
 rw [h.ms] at hT
 dsimp only
 rw [show AF _ = _ from hT.dLen (g := p), Option.bind_some]
 by_cases c1 : n ≤ x.a.length + x.b.length
 ·have c1' : decide ((n : Int) ≤ ((x.a.length + x.b.length : Nat) : Int)) = true := by simp; omega
  rw [if_pos c1', if_pos c1']
  have hne : x.kept ≠ [] := by intro q; have := congrArg List.length q; unfold AL.kept at this; simp at this; rw [this.1, this.2] at c1; simp at c1; omega
  obtain ⟨o, t', x', e, ed, et, h', e1, e2, e3, e4, e5⟩ := hT.replace ((if k ∈ x.c then (2 : Int) else 3) == 3) hne
  dsimp only at ed et
  rw [e, Option.bind_some, Option.bind_some, show AE _ _ = _ from ed, Option.bind_some, Option.bind_some]
  dsimp only
  obtain ⟨t'', x'', ef, efd, h''⟩ := FR t' x' [o] h' ((e4 k).2 hkall) (fun z => hkn (e5 k z)) (by omega)
  rw [et] at efd
  exact ⟨[o], t'', x'', ef, efd, h'', by simp⟩
 ·have c1' : ¬ decide ((n : Int) ≤ ((x.a.length + x.b.length : Nat) : Int)) = true := by simp; omega
  rw [if_neg c1', if_neg c1', Option.bind_some, Option.bind_some]
  dsimp only
  obtain ⟨t'', x'', ef, efd, h''⟩ := FR _ x [] hT hkall hkn (by omega)
  exact ⟨[], t'', x'', ef, efd, h'', by simp⟩
end
end Go.Proofs.YthngfieikhillaaGreat.Pure
namespace Go.Proofs.YthngfieikhillaaGreat.Pure
open Go Go.Proofs.YthngfieikhillaaGreat.Hw Go.Proofs.YthngfieikhillaaGreat
section
variable {n : Nat} {t : Al} {x : AL}
theorem AR.dinsert (h : AR n t x) (k : Str) : ∃ g t' x', CE t k = some (g, t') ∧ Bo (AD n t.target x) k = some (AD n t'.target x', g) ∧ AR n t' x' ∧ g.length ≤ 1 := by
 by_cases h64 : 64 < k.length
 ·unfold CE Bo
  have c : decide ((64 : Int) < (k.length : Int)) = true := by simp; omega
  rw [if_pos c, if_pos c]
  exact ⟨[], t, x, rfl, rfl, h, by simp⟩
 have h64 : k.length ≤ 64 := by omega
 have c64 : ¬ decide ((64 : Int) < (k.length : Int)) = true := by simp; omega
 by_cases hk : k ∈ x.kept
 ·obtain ⟨t', x', e, ed, h'⟩ := h.touch hk
  unfold CE Bo
  rw [if_neg c64, if_neg c64, e, Option.bind_some, Option.bind_some, if_pos rfl, h.dHas, Option.bind_some, if_pos (by simp [hk]), ed, Option.bind_some]
  exact ⟨[], t', x', rfl, rfl, h', by simp⟩
 obtain ⟨r, hr, hR⟩ := h.rg
 obtain ⟨na, nb, nc, nd, d1, d2, d3⟩ := all_dj h.nd
 have b1 := h.b1; have b2 := h.b2; have b3 := h.b3; have hn := h.n2; have hn1 := h.n1
 have l0 := hR.Len (i := 0) (l := x.a) rfl
 have l1 := hR.Len (i := 1) (l := x.b) rfl
 have l2 := hR.Len (i := 2) (l := x.c) rfl
 have l3 := hR.Len (i := 3) (l := x.d) rfl
 have et : (⟨t.most, t.target, some r⟩ : Al) = t := by rw [← hr]
 unfold CE Bo
 rw [if_neg c64, if_neg c64, h.touch_no hk, Option.bind_some, Option.bind_some, if_neg (by simp), h.dHas, Option.bind_some, if_neg (by simp [hk])]
 dsimp only
 rw [hr, om_some, et, show AG ⟨x.L, _⟩ k = _ from h.dIn _ k, Option.bind_some]
 have ka : k ∉ x.a := fun q => hk (mem_kept.2 (.inl q))
 have kb : k ∉ x.b := fun q => hk (mem_kept.2 (.inr q))
 rw [if_neg ka, if_neg kb]
 by_cases hcd : k ∈ x.c ∨ k ∈ x.d
 ·have hin : Bd r k = some ((if k ∈ x.c then (2 : Int) else 3), true) := by
   by_cases hc : k ∈ x.c
   ·rw [if_pos hc]; exact hR.in_some (i := 2) rfl hc
   ·rw [if_neg hc]; exact hR.in_some (i := 3) rfl (hcd.resolve_left hc)
  have hid : (if k ∈ x.c then ((2 : Int), true) else if k ∈ x.d then (3, true) else (0, false)) = ((if k ∈ x.c then (2 : Int) else 3), true) := by
   by_cases hc : k ∈ x.c
   ·rw [if_pos hc, if_pos hc]
   ·rw [if_neg hc, if_neg hc, if_pos (hcd.resolve_left hc)]
  rw [hin, Option.bind_some, if_pos rfl, hid, if_pos rfl]
  obtain ⟨g, t', x', e, ed, h', hg⟩ := h.again hcd
  rw [e, Option.bind_some]
  exact ⟨g, t', x', rfl, ed, h', hg⟩
 ·have kc : k ∉ x.c := fun q => hcd (.inl q)
  have kd : k ∉ x.d := fun q => hcd (.inr q)
  have hall : k ∉ x.all := by rw [mem_all]; simp [ka, kb, kc, kd]
  rw [hR.in_none (by rw [afl]; exact hall), Option.bind_some, if_neg (by simp), if_neg kc, if_neg kd, if_neg (by simp), show Aq r 0 = _ from l0, Option.bind_some, show Aq r 2 = _ from l2, Option.bind_some, show Aq r 1 = _ from l1, Option.bind_some, show Aq r 3 = _ from l3, Option.bind_some,
   dlen (l := x.a) 0 rfl, Option.bind_some, dlen (l := x.c) 2 rfl, Option.bind_some, h.dLen, Option.bind_some, dlen (l := x.d) 3 rfl, Option.bind_some]
  have s1 : i64 ((x.a.length : Int) + (x.c.length : Int)) = ((x.a.length + x.c.length : Nat) : Int) := by rw [i64s _ (by omega) (by omega)]; omega
  have s2 : i64 (((x.a.length + x.c.length : Nat) : Int) + (x.b.length : Int)) = ((x.a.length + x.c.length + x.b.length : Nat) : Int) := by rw [i64s _ (by omega) (by omega)]; omega
  have s3 : i64 (((x.a.length + x.c.length + x.b.length : Nat) : Int) + (x.d.length : Int)) = ((x.a.length + x.c.length + x.b.length + x.d.length : Nat) : Int) := by rw [i64s _ (by omega) (by omega)]; omega
  have s4 : i64 (2 * (n : Int)) = ((2 * n : Nat) : Int) := by rw [i64s _ (by omega) (by omega)]; omega
  have s5 : i64 (((x.a.length + x.b.length : Nat) : Int) + (x.c.length : Int)) = ((x.a.length + x.c.length + x.b.length : Nat) : Int) := by rw [i64s _ (by omega) (by omega)]; omega
  rw [s1, s2, s3, s5, s3, h.ms, s4]
  clear s1 s2 s3 s4 s5
  have RP : ∀ (t1 : Al) (x1 : AL), AR n t1 x1 → k ∉ x1.all → x1.a.length + x1.c.length + 1 ≤ n → x1.a.length + x1.b.length + x1.c.length + x1.d.length + 1 ≤ 2 * n →
    ∃ g t2 x2, ((B0 t1).bind fun r76 => Option.bind (if decide (t1.most ≤ r76) then (Bt t1 false).bind fun r89 => some (r89.1, r89.2) else some ([], t1)) fun p78 => some (p78.1, p78.2)) = some (g, t2) ∧
     ((AF (AD n t1.target x1)).bind fun r134 => if decide ((n : Int) ≤ r134) then (AE (AD n t1.target x1) false).bind fun r138 => (Av r138.1 0 k).bind fun r147 => some (r147, r138.2) else (Av (AD n t1.target x1) 0 k).bind fun r155 => some (r155, [])) = ((Av (AD n t2.target x2) 0 k).bind fun r => some (r, g)) ∧
     AR n t2 x2 ∧ k ∉ x2.all ∧ x2.a.length + x2.b.length + 1 ≤ n ∧ x2.a.length + x2.c.length + 1 ≤ n ∧ x2.a.length + x2.b.length + x2.c.length + x2.d.length + 1 ≤ 2 * n ∧ g.length ≤ 1 := by
   intro t1 x1 h1 hk1 q2 q3
   have qb := h1.b1
   rw [h1.Len, Option.bind_some, h1.ms, h1.dLen, Option.bind_some]
   by_cases c1 : n ≤ x1.a.length + x1.b.length
   ·have c1' : decide ((n : Int) ≤ ((x1.a.length + x1.b.length : Nat) : Int)) = true := by simp; omega
    rw [if_pos c1', if_pos c1']
    have hne : x1.kept ≠ [] := by intro q; have := congrArg List.length q; unfold AL.kept at this; simp at this; rw [this.1, this.2] at c1; simp at c1; omega
    obtain ⟨o, t', x', e, ed, eg, h', e1, e2, e3, e4, e5⟩ := h1.replace false hne
    rw [e, Option.bind_some, Option.bind_some, ed, Option.bind_some]
    exact ⟨[o], t', x', rfl, by rw [eg], h', fun z => hk1 ((e4 k).1 z), by omega, by omega, by omega, by simp⟩
   ·have c1' : ¬ decide ((n : Int) ≤ ((x1.a.length + x1.b.length : Nat) : Int)) = true := by simp; omega
    rw [if_neg c1', if_neg c1', Option.bind_some]
    exact ⟨[], t1, x1, rfl, rfl, h1, hk1, by omega, q2, q3, by simp⟩
  have FIN : ∀ (g : List Str) (t2 : Al) (x2 : AL), AR n t2 x2 → k ∉ x2.all → x2.a.length + x2.b.length + 1 ≤ n → x2.a.length + x2.c.length + 1 ≤ n → x2.a.length + x2.b.length + x2.c.length + x2.d.length + 1 ≤ 2 * n → g.length ≤ 1 →
    ∃ g' t' x', (om t2.r (none) fun x53 => (Aw x53 0 k).bind fun r61 => some (g, (⟨t2.most, t2.target, (some r61.2)⟩ : Al))) = some (g', t') ∧ ((Av (AD n t2.target x2) 0 k).bind fun r => some (r, g)) = some (AD n t'.target x', g') ∧ AR n t' x' ∧ g'.length ≤ 1 := by
   intro g t2 x2 h2 k2 q1 q2 q3 hg
   obtain ⟨t', e, eg, h', ed⟩ := h2.fr0 k2 h64 q1 q2 q3 g
   refine ⟨g, t', _, e, ?_, h', hg⟩
   rw [ed, Option.bind_some, eg]
  by_cases c1 : n ≤ x.a.length + x.c.length
  ·have c1' : decide ((n : Int) ≤ ((x.a.length + x.c.length : Nat) : Int)) = true := by simp; omega
   simp only [c1', ↓reduceIte, Option.bind_some]
   by_cases c2 : x.a.length < n
   ·
    rw [if_pos (by simp; omega), if_neg (by simp; omega)]
    obtain ⟨t1, x1, e1, ed, h1, ea, eb, ee, ec, em⟩ := h.forget2
    rw [e1, Option.bind_some, ed, Option.bind_some]
    obtain ⟨g, t2, x2, e2, e3, h2, k2, q1, q2, q3, hg⟩ := RP t1 x1 h1 (fun z => hall (em k z)) (by rw [ea, ec]; omega) (by rw [ea, eb, ee, ec]; omega)
    rw [e2, Option.bind_some, e3]
    exact FIN g t2 x2 h2 k2 q1 q2 q3 hg
   ·
    have hlen : x.a.length = n := by omega
    have hna : x.a ≠ [] := by intro q; rw [q] at hlen; simp at hlen; omega
    have k0 := hR.BackA (i := 0) (l := x.a) rfl
    have kq := h.dback (i := 0) (l := x.a) rfl ((2 * n + 1 : Nat) : Int)
    have kf := h.dforget (g := t.target) (i := 0) (l := x.a) rfl
    have om := List.getLast_mem hna
    rw [List.getLast?_eq_some_getLast hna] at k0 kq kf
    generalize x.a.getLast hna = o at k0 kq kf om
    rw [if_neg (by simp; omega), show Ay r 0 = _ from k0, Option.bind_some, if_pos (by simp; omega), show Ar ⟨x.L, _⟩ 0 = _ from kq, Option.bind_some, show AN _ 0 = _ from kf, Option.bind_some]
    obtain ⟨r', e, hR'⟩ := hR.dropA (by omega) (by omega) o
    dsimp only
    rw [e, Option.bind_some, Option.bind_some, Option.bind_some]
    have h2 := h.gone (x := x) hR'
    rw [h.ms] at h2
    have rl := rm_len na om
    refine FIN [o] _ (x.drop o) h2 (fun z => hall ?_) ?_ ?_ ?_ (by simp)
    ·rw [mem_all] at z ⊢
     simp only [AL.drop, rm_mem] at z
     rcases z with q | q | q | q
     ·exact .inl q.1
     ·exact .inr (.inl q.1)
     ·exact .inr (.inr (.inl q.1))
     ·exact .inr (.inr (.inr q.1))
    ·show (TL.rm x.a o).length + (TL.rm x.b o).length + 1 ≤ n; have := rm_le x.b o; omega
    ·show (TL.rm x.a o).length + (TL.rm x.c o).length + 1 ≤ n; have := rm_le x.c o; omega
    ·show (TL.rm x.a o).length + (TL.rm x.b o).length + (TL.rm x.c o).length + (TL.rm x.d o).length + 1 ≤ 2 * n
     have := rm_le x.b o; have := rm_le x.c o; have := rm_le x.d o; omega
  ·have c1' : decide ((n : Int) ≤ ((x.a.length + x.c.length : Nat) : Int)) = false := by simp; omega
   simp only [c1', ↓reduceIte, Option.bind_some, Bool.false_eq_true]
   by_cases c3 : n ≤ x.a.length + x.c.length + x.b.length + x.d.length
   ·have c3' : decide ((n : Int) ≤ ((x.a.length + x.c.length + x.b.length + x.d.length : Nat) : Int)) = true := by simp; omega
    rw [if_pos c3', if_pos c3']
    by_cases c4 : 2 * n ≤ x.a.length + x.c.length + x.b.length + x.d.length
    ·have c4' : decide (((2 * n : Nat) : Int) ≤ ((x.a.length + x.c.length + x.b.length + x.d.length : Nat) : Int)) = true := by simp; omega
     rw [if_pos c4', if_pos c4']
     obtain ⟨t1, x1, e1, ed, h1, ea, eb, ec, ee, em⟩ := h.forget3
     rw [e1, Option.bind_some, Option.bind_some, ed, Option.bind_some, Option.bind_some]
     obtain ⟨g, t2, x2, e2, e3, h2, k2, q1, q2, q3, hg⟩ := RP t1 x1 h1 (fun z => hall (em k z)) (by rw [ea, ec]; omega) (by rw [ea, eb, ee, ec]; omega)
     rw [e2, Option.bind_some, Option.bind_some, Option.bind_some, e3]
     exact FIN g t2 x2 h2 k2 q1 q2 q3 hg
    ·have c4' : ¬ decide (((2 * n : Nat) : Int) ≤ ((x.a.length + x.c.length + x.b.length + x.d.length : Nat) : Int)) = true := by simp; omega
     rw [if_neg c4', if_neg c4', Option.bind_some, Option.bind_some]
     obtain ⟨g, t2, x2, e2, e3, h2, k2, q1, q2, q3, hg⟩ := RP t x h hall (by omega) (by omega)
     rw [e2, Option.bind_some, Option.bind_some, Option.bind_some, e3]
     exact FIN g t2 x2 h2 k2 q1 q2 q3 hg
   ·have c3' : ¬ decide ((n : Int) ≤ ((x.a.length + x.c.length + x.b.length + x.d.length : Nat) : Int)) = true := by simp; omega
    rw [if_neg c3', if_neg c3', Option.bind_some, Option.bind_some, Option.bind_some]
    exact FIN [] t x h hall (by omega) (by omega) (by omega) (by simp)
end
theorem new_a (n : Nat) (h1 : 1 ≤ n) (h2 : n ≤ 400) : ∃ t, Dy (n : Int) = some (some t, 0) ∧ CG (n : Int) = some (AD n t.target ⟨[], [], [], []⟩) ∧ AR n t ⟨[], [], [], []⟩ := by
 obtain ⟨r, e, hR⟩ := new_ok 4 (2 * n + 1) (by omega) (by omega) (by omega)
 have e1 : i64 (2 * (n : Int)) = ((2 * n : Nat) : Int) := by rw [i64s _ (by omega) (by omega)]; omega
 have e2 : i64 (((2 * n : Nat) : Int) + 1) = ((2 * n + 1 : Nat) : Int) := by rw [i64s _ (by omega) (by omega)]; omega
 unfold Dy CG
 rw [if_neg (by simp; omega), e1, e2, show C0 4 ((2 * n + 1 : Nat) : Int) = _ from e, Option.bind_some, show Bf 4 _ = _ from rnew 4 (by omega), Option.bind_some]
 exact ⟨_, rfl, rfl, h1, h2, rfl, ⟨by simp, by simp⟩, ⟨r, rfl, hR⟩, by simp, by simp, by simp⟩
end Go.Proofs.YthngfieikhillaaGreat.Pure
namespace Go.Proofs.YthngfieikhillaaGreat.Pure
open Go Go.Proofs.YthngfieikhillaaGreat.Hw Go.Proofs.YthngfieikhillaaGreat
def enc : Nat → Nat → Str
 | 0, _ => []
 | f + 1, n => if n < 128 then [UInt8.ofNat n] else UInt8.ofNat (n % 128 + 128) :: enc f (n / 128)
theorem enc_len : ∀ (f n : Nat), (enc f n).length ≤ f
 | 0, _ => by simp [enc]
 | f + 1, n => by
  have := enc_len f (n / 128)
  unfold enc
  split <;> simp <;> omega
theorem byte_hi (n : UInt64) : ((n % 128).toUInt8) + 128 = UInt8.ofNat (n.toNat % 128 + 128) := by
 apply UInt8.toNat_inj.1
 have e : (128 : UInt8).toNat = 128 := by decide
 have e2 : (128 : UInt64).toNat = 128 := by decide
 rw [UInt8.toNat_add, UInt64.toNat_toUInt8, UInt64.toNat_mod, UInt8.toNat_ofNat', e, e2]
 omega
theorem byte_hi' (n : UInt64) : (128 + (n % 128)).toUInt8 = UInt8.ofNat (n.toNat % 128 + 128) := by
 apply UInt8.toNat_inj.1
 have e2 : (128 : UInt64).toNat = 128 := by decide
 rw [UInt64.toNat_toUInt8, UInt64.toNat_add, UInt64.toNat_mod, UInt8.toNat_ofNat', e2]
 omega
theorem byte_lo (n : UInt64) : n.toUInt8 = UInt8.ofNat n.toNat := by
 apply UInt8.toNat_inj.1
 rw [UInt64.toNat_toUInt8, UInt8.toNat_ofNat']
theorem div128 (n : UInt64) : (n / 128).toNat = n.toNat / 128 := by
 have e2 : (128 : UInt64).toNat = 128 := by decide
 rw [UInt64.toNat_div, e2]
theorem ge128 (n : UInt64) : (decide (128 ≤ n)) = decide (128 ≤ n.toNat) := by
 have e2 : (128 : UInt64).toNat = 128 := by decide
 rw [decide_eq_decide, UInt64.le_iff_toNat_le, e2]
theorem gt127 (n : UInt64) : (decide (127 < n)) = decide (128 ≤ n.toNat) := by
 have e2 : (127 : UInt64).toNat = 127 := by decide
 rw [decide_eq_decide, UInt64.lt_iff_toNat_lt, e2]
 exact Iff.rfl
theorem wnum_loop : ∀ (f : Nat) (n : UInt64) (c : Str), n.toNat < 128 ^ (f + 1) → c.length + f ≤ 1000 →
  ∃ m c', CV (f + 1) n c = some (m, c') ∧ Co (f + 1) n c = some (m, c') ∧ c' ++ [UInt8.ofNat m.toNat] = c ++ enc (f + 1) n.toNat ∧ c'.length ≤ c.length + f := by
 intro f
 induction f with
 | zero =>
  intro n c hn hl
  have h : ¬ 128 ≤ n.toNat := by simpa using hn
  have e : decide (128 ≤ n.toNat) = false := by simpa using h
  refine ⟨n, c, ?_, ?_, ?_, by omega⟩
  ·unfold CV; rw [ge128, e]; rfl
  ·unfold Co; rw [gt127, e]; rfl
  ·unfold enc; rw [if_pos (by omega)]
 | succ f ih =>
  intro n c hn hl
  by_cases h : 128 ≤ n.toNat
  ·have e : decide (128 ≤ n.toNat) = true := by simpa using h
   have hd : (n / 128).toNat < 128 ^ (f + 1) := by
    rw [div128]
    rw [Nat.pow_succ] at hn
    exact Nat.div_lt_of_lt_mul (by rw [Nat.mul_comm]; exact hn)
   obtain ⟨m, c', h1, h2, h3, h4⟩ := ih (n / 128) (c ++ [UInt8.ofNat (n.toNat % 128 + 128)]) hd (by simp; omega)
   refine ⟨m, c', ?_, ?_, ?_, by simp at h4; omega⟩
   ·unfold CV
    rw [ge128, e, if_pos rfl, byte_hi]
    have ha : apd 1 c [UInt8.ofNat (n.toNat % 128 + 128)] = some (c ++ [UInt8.ofNat (n.toNat % 128 + 128)]) := by
     unfold apd
     rw [if_pos (by simp; omega)]
    rw [ha, Option.bind_some]
    exact h1
   ·unfold Co
    rw [gt127, e, if_pos rfl, byte_hi', if_pos (by simp [maxS]; omega)]
    exact h2
   ·rw [h3, div128]
    conv => rhs; unfold enc
    rw [if_neg (by omega)]
    simp
  ·have e : decide (128 ≤ n.toNat) = false := by simpa using h
   refine ⟨n, c, ?_, ?_, ?_, by omega⟩
   ·unfold CV; rw [ge128, e]; rfl
   ·unfold Co; rw [gt127, e]; rfl
   ·unfold enc; rw [if_pos (by omega)]
theorem num_enc (n : UInt64) : A4 n = some (enc 11 n.toNat) ∧ Bq n = some (enc 11 n.toNat) := by
 have hn : n.toNat < 128 ^ (10 + 1) := Nat.lt_of_lt_of_le n.toNat_lt (by decide)
 obtain ⟨m, c', h1, h2, h3, h4⟩ := wnum_loop 10 n [] hn (by simp)
 rw [List.nil_append] at h3
 constructor
 ·unfold A4
  have h1' : CV 11 n [] = some (m, c') := h1
  rw [h1', Option.bind_some]
  dsimp only
  rw [byte_lo]
  have ha : apd 1 c' [UInt8.ofNat m.toNat] = some (c' ++ [UInt8.ofNat m.toNat]) := by
   unfold apd
   rw [if_pos (by simp at h4 ⊢; omega)]
  rw [ha, Option.bind_some, h3]
 ·unfold Bq
  have h2' : Co 11 n [] = some (m, c') := h2
  rw [h2', Option.bind_some]
  dsimp only
  rw [byte_lo, if_pos (by simp [maxS] at h4 ⊢; omega), h3]
end Go.Proofs.YthngfieikhillaaGreat.Pure
namespace Go.Proofs.YthngfieikhillaaGreat.Pure
open Go Go.Proofs.YthngfieikhillaaGreat.Hw Go.Proofs.YthngfieikhillaaGreat
theorem toY_nat (x : UInt8) : toY ((x.toNat : Nat) : Int) = x := by
 unfold toY
 apply UInt8.toNat_inj.1
 have := x.toNat_lt
 simp only [UInt8.toNat_ofNat']
 omega
def bits (d : List Bool) : Str := d.map fun b => if b then 1 else 0
theorem flag_c (b : Bool) : Dk b = [if b then 1 else 0] := by cases b <;> rfl
theorem flag_m (b : Bool) : Dt b = [if b then 1 else 0] := by cases b <;> rfl
theorem DD (d : List Bool) (k : Nat) (h : k < d.length) : bits (d.drop k) = [if d[k] then 1 else 0] ++ bits (d.drop (k + 1)) := by
 unfold bits
 rw [List.drop_eq_getElem_cons h, List.map_cons]; rfl
theorem exp_door (S : Aj) (d : List Bool) (hd : S.door = d) (hl : d.length ≤ 4096) : ∀ (f k : Nat) (out : Str), f = d.length - k + 1 → k ≤ d.length → out.length + (d.length - k) ≤ 100000 →
  BL S f out (k : Int) = some (out ++ bits (d.drop k)) := by
 intro f
 induction f with
 | zero => intro k out h; omega
 | succ f ih =>
  intro k out hf hk ho
  unfold BL
  rw [hd]
  by_cases h : k < d.length
  ·have ei : i64 ((k : Int) + 1) = ((k + 1 : Nat) : Int) := by rw [i64_id] <;> omega
   rw [if_pos (by rw [decide_eq_true_eq]; omega), gN h, Option.bind_some, flag_c, if_pos (by simp [maxS]; omega), ei, ih (k + 1) _ (by omega) (by omega) (by simp; omega), DD d k h, List.append_assoc]
  ·obtain rfl : k = d.length := by omega
   rw [if_neg (by rw [decide_eq_true_eq]; omega), List.drop_length]
   simp [bits]
theorem put_door (S : Af) (d : List Bool) (hd : S.Door = d) (hw : S.Wide = (d.length : Int)) (hl : d.length ≤ 4096) : ∀ (f k : Nat) (out : Str), f = d.length - k + 1 → k ≤ d.length → out.length + (d.length - k) ≤ 100000 →
  Ck S f out (k : Int) = some (out ++ bits (d.drop k)) := by
 intro f
 induction f with
 | zero => intro k out h; omega
 | succ f ih =>
  intro k out hf hk ho
  unfold Ck
  rw [hd, hw]
  by_cases h : k < d.length
  ·have ei : i64 ((k : Int) + 1) = ((k + 1 : Nat) : Int) := by rw [i64_id] <;> omega
   rw [if_pos (by rw [decide_eq_true_eq]; omega), gN h, Option.bind_some, flag_m, if_pos (by simp [maxS]; omega), ei, ih (k + 1) _ (by omega) (by omega) (by simp; omega), DD d k h, List.append_assoc]
  ·obtain rfl : k = d.length := by omega
   rw [if_neg (by rw [decide_eq_true_eq]; omega), List.drop_length]
   simp [bits]
theorem put_row (S : Af) (i : Int) (r : List UInt8) (hr : gi S.Rows i = some (N8 r)) (hw : S.Wide = (r.length : Int)) (hl : r.length ≤ 4096) : ∀ (f k : Nat) (out : Str), f = r.length - k + 1 → k ≤ r.length → out.length + (r.length - k) ≤ 100000 →
  Bh S i f out (k : Int) = some (out ++ r.drop k) := by
 intro f
 induction f with
 | zero => intro k out h; omega
 | succ f ih =>
  intro k out hf hk ho
  unfold Bh
  rw [hw]
  by_cases h : k < r.length
  ·have ei : i64 ((k : Int) + 1) = ((k + 1 : Nat) : Int) := by rw [i64_id] <;> omega
   rw [if_pos (by rw [decide_eq_true_eq]; omega), hr, Option.bind_some, gN8 h, Option.bind_some, toY_nat, if_pos (by simp [maxS]; omega), ei, ih (k + 1) _ (by omega) (by omega) (by simp; omega), List.drop_eq_getElem_cons h, List.append_assoc]
   rfl
  ·obtain rfl : k = r.length := by omega
   rw [if_neg (by rw [decide_eq_true_eq]; omega), List.drop_length, List.append_nil]
def Sk.bytes (s : Sk) (w : Nat) (seed : UInt64) : Str := (((((enc 11 (toW (w : Int)).toNat ++ enc 11 seed.toNat ++ enc 11 (toW (s.n : Int)).toNat) ++ s.a) ++ s.b) ++ s.c) ++ s.e) ++ bits s.d
section
variable {w : Nat} {seed : UInt64} {s : Sk} (h2 : w ≤ 4096) (hs : s.ok w)
include h2 hs
theorem exp_rows (out : Str) (ho : out.length ≤ 100) : A6 (s.C w seed) 5 out 0 = some ((((out ++ s.a) ++ s.b) ++ s.c) ++ s.e) := by
 have ha := hs.ha; have hb := hs.hb; have hc := hs.hc; have he := hs.he
 unfold A6
 rw [if_pos (by decide), show gi (s.C w seed).rows 0 = _ from g0 .., Option.bind_some, if_pos (by simp [maxS]; omega), j0]
 unfold A6
 rw [if_pos (by decide), show gi (s.C w seed).rows 1 = _ from g1 .., Option.bind_some, if_pos (by simp [maxS]; omega), j1]
 unfold A6
 rw [if_pos (by decide), show gi (s.C w seed).rows 2 = _ from g2 .., Option.bind_some, if_pos (by simp [maxS]; omega), j2]
 unfold A6
 rw [if_pos (by decide), show gi (s.C w seed).rows 3 = _ from g3 .., Option.bind_some, if_pos (by simp [maxS]; omega), j3]
 unfold A6
 rw [if_neg (by decide)]
theorem put_rows (out : Str) (ho : out.length ≤ 100) : Bi (s.M w seed) 5 out 0 = some ((((out ++ s.a) ++ s.b) ++ s.c) ++ s.e) := by
 have ha := hs.ha; have hb := hs.hb; have hc := hs.hc; have he := hs.he
 have R := fun (i : Int) (r : List UInt8) (hr : gi (s.M w seed).Rows i = some (N8 r)) (hl : r.length = w) (o : Str) (hlo : o.length ≤ 20000) =>
  put_row (s.M w seed) i r hr (by rw [hl]) (by omega) ((((w : Nat) : Int) - 0).toNat + 1) 0 o (by omega) (by omega) (by omega)
 simp only [List.drop_zero] at R
 unfold Bi
 rw [if_pos (by decide), show Bh (s.M w seed) 0 (((s.M w seed).Wide - 0).toNat + 1) out 0 = _ from R 0 s.a (g0 ..) ha _ (by omega), Option.bind_some, Option.bind_some, j0]
 unfold Bi
 rw [if_pos (by decide), show Bh (s.M w seed) 1 (((s.M w seed).Wide - 0).toNat + 1) _ 0 = _ from R 1 s.b (g1 ..) hb _ (by simp; omega), Option.bind_some, Option.bind_some, j1]
 unfold Bi
 rw [if_pos (by decide), show Bh (s.M w seed) 2 (((s.M w seed).Wide - 0).toNat + 1) _ 0 = _ from R 2 s.c (g2 ..) hc _ (by simp; omega), Option.bind_some, Option.bind_some, j2]
 unfold Bi
 rw [if_pos (by decide), show Bh (s.M w seed) 3 (((s.M w seed).Wide - 0).toNat + 1) _ 0 = _ from R 3 s.e (g3 ..) he _ (by simp; omega), Option.bind_some, Option.bind_some, j3]
 unfold Bi
 rw [if_neg (by decide)]
theorem Exp_c : Cn (s.C w seed) = some (s.bytes w seed) := by
 have ha := hs.ha; have hb := hs.hb; have hc := hs.hc; have he := hs.he; have hd := hs.hd
 have l1 := enc_len 11 (toW (w : Int)).toNat
 have l2 := enc_len 11 seed.toNat
 have l3 := enc_len 11 (toW (s.n : Int)).toNat
 unfold Cn
 dsimp only
 rw [(num_enc _).1, Option.bind_some, (num_enc _).1, Option.bind_some, (num_enc _).1]
 unfold Sk.bytes
 generalize enc 11 (toW (w : Int)).toNat = x1 at l1 ⊢
 generalize enc 11 seed.toNat = x2 at l2 ⊢
 generalize enc 11 (toW (s.n : Int)).toNat = x3 at l3 ⊢
 rw [if_pos (by simp [maxS]; omega), Option.bind_some, if_pos (by simp [maxS]; omega), exp_rows h2 hs _ (by simp; omega), Option.bind_some]
 have D := exp_door (s.C w seed) s.d rfl (by omega) (((s.d.length : Int) - 0).toNat + 1) 0 (((((x1 ++ x2 ++ x3) ++ s.a) ++ s.b) ++ s.c) ++ s.e) (by omega) (by omega) (by simp; omega)
 rw [show BL (s.C w seed) (((s.d.length : Int) - 0).toNat + 1) _ 0 = _ from D, Option.bind_some, List.drop_zero]
theorem Put_m : Di (s.M w seed) = some (s.bytes w seed) := by
 have ha := hs.ha; have hb := hs.hb; have hc := hs.hc; have he := hs.he; have hd := hs.hd
 have l1 := enc_len 11 (toW (w : Int)).toNat
 have l2 := enc_len 11 seed.toNat
 have l3 := enc_len 11 (toW (s.n : Int)).toNat
 unfold Di
 dsimp only
 rw [(num_enc _).2, Option.bind_some, (num_enc _).2, Option.bind_some, (num_enc _).2]
 unfold Sk.bytes
 generalize enc 11 (toW (w : Int)).toNat = x1 at l1 ⊢
 generalize enc 11 seed.toNat = x2 at l2 ⊢
 generalize enc 11 (toW (s.n : Int)).toNat = x3 at l3 ⊢
 rw [if_pos (by simp [maxS]; omega), Option.bind_some, if_pos (by simp [maxS]; omega), put_rows h2 hs _ (by simp; omega), Option.bind_some]
 have D := put_door (s.M w seed) s.d rfl (by rw [hd]) (by omega) (((w : Int) - 0).toNat + 1) 0 (((((x1 ++ x2 ++ x3) ++ s.a) ++ s.b) ++ s.c) ++ s.e) (by omega) (by omega) (by simp; omega)
 rw [show Ck (s.M w seed) (((w : Int) - 0).toNat + 1) _ 0 = _ from D, Option.bind_some, List.drop_zero]
end
end Go.Proofs.YthngfieikhillaaGreat.Pure
namespace Go.Proofs.YthngfieikhillaaGreat.Pure
open Go Go.Proofs.YthngfieikhillaaGreat.Hw Go.Proofs.YthngfieikhillaaGreat
theorem sl_lo {s : Str} {n : Int} (h0 : 0 ≤ n) (h1 : n ≤ (s.length : Int)) : sl s 0 n = some (s.take n.toNat) := by
 unfold sl
 rw [if_pos ⟨by omega, h0, h1⟩]
 simp
theorem sl_hi {s : Str} {n : Int} (h0 : 0 ≤ n) (h1 : n ≤ (s.length : Int)) : sl s n (s.length : Int) = some (s.drop n.toNat) := by
 unfold sl
 rw [if_pos ⟨h0, h1, by omega⟩, List.take_of_length_le (by simp)]
theorem digit_val (n unit : UInt64) (c : UInt8) (j : Nat) (hj : j ≤ 9) (hn : n.toNat < 2 ^ (7 * j)) (hu : unit.toNat = 2 ^ (7 * j)) (h9 : j = 9 → c.toNat ≤ 1) :
  n ||| shWl ((c % 128).toUInt64) (7 * (j : Int)) = n + (c.toUInt64 % 128) * unit ∧ (n + (c.toUInt64 % 128) * unit).toNat = n.toNat + c.toNat % 128 * 2 ^ (7 * j) := by
 have hd : (c % 128).toNat = c.toNat % 128 := by rw [UInt8.toNat_mod]; rfl
 have hd64 : ((c % 128).toUInt64).toNat = c.toNat % 128 := by rw [UInt8.toNat_toUInt64, hd]
 have he64 : (c.toUInt64 % 128).toNat = c.toNat % 128 := by rw [UInt64.toNat_mod, UInt8.toNat_toUInt64]; rfl
 have hcl := c.toNat_lt
 have hm : c.toNat % 128 < 128 := Nat.mod_lt _ (by decide)
 have htop : c.toNat % 128 * 2 ^ (7 * j) + 2 ^ (7 * j) ≤ 2 ^ 64 := by
  by_cases e9 : j = 9
  ·have := h9 e9
   subst e9
   have h1 : c.toNat % 128 + 1 ≤ 2 := by have := Nat.mod_le c.toNat 128; omega
   have h2 : (c.toNat % 128 + 1) * 2 ^ (7 * 9) ≤ 2 * 2 ^ (7 * 9) := Nat.mul_le_mul_right _ h1
   rw [Nat.add_mul, Nat.one_mul] at h2
   exact Nat.le_trans h2 (by decide)
  ·have h2 : (c.toNat % 128 + 1) * 2 ^ (7 * j) ≤ 128 * 2 ^ (7 * 8) := Nat.mul_le_mul (by omega) (Nat.pow_le_pow_right (by decide) (by omega))
   rw [Nat.add_mul, Nat.one_mul] at h2
   exact Nat.le_trans h2 (by decide)
 have hpos : 0 < 2 ^ (7 * j) := Nat.pow_pos (by decide)
 have hmul : ((c.toUInt64 % 128) * unit).toNat = c.toNat % 128 * 2 ^ (7 * j) := by
  rw [UInt64.toNat_mul, he64, hu, Nat.mod_eq_of_lt (Nat.lt_of_lt_of_le (Nat.lt_add_of_pos_right hpos) htop)]
 have hadd : (n + (c.toUInt64 % 128) * unit).toNat = n.toNat + c.toNat % 128 * 2 ^ (7 * j) := by
  rw [UInt64.toNat_add, hmul, Nat.mod_eq_of_lt (Nat.lt_of_lt_of_le (by rw [Nat.add_comm]; exact Nat.add_lt_add_left hn _) htop)]
 refine ⟨?_, hadd⟩
 apply UInt64.toNat_inj.1
 rw [hadd, UInt64.toNat_or]
 have hmin : min (7 * (j : Int)).toNat 64 = 7 * j := by omega
 have hsh : (shWl ((c % 128).toUInt64) (7 * (j : Int))).toNat = c.toNat % 128 * 2 ^ (7 * j) := by
  unfold shWl
  rw [hmin, hd64, UInt64.toNat_ofNat', Nat.mod_eq_of_lt (Nat.lt_of_lt_of_le (Nat.lt_add_of_pos_right hpos) htop)]
 rw [hsh, Nat.or_comm, Nat.mul_comm, ← Nat.two_pow_add_eq_or_of_lt hn, Nat.add_comm]
theorem one_cons (c : UInt8) (tl : Str) : AH ⟨c :: tl⟩ 1 = some (.inl ([c], ⟨tl⟩)) := by
 have e1 : (decide ((1 : Int) < 0) || decide (((c :: tl).length : Int) < 1)) = false := by simp; omega
 unfold AH
 simp only [e1, Bool.false_eq_true, if_false, Option.bind_some]
 rw [sl_lo (by omega) (by simp; omega), sl_hi (by omega) (by simp; omega)]
 rfl
theorem acc_next (n d j : Nat) (hn : n < 2 ^ (7 * j)) (hm : d < 128) : n + d * 2 ^ (7 * j) < 2 ^ (7 * (j + 1)) := by
 have e2 : 2 ^ (7 * (j + 1)) = 2 ^ (7 * j) * 128 := by rw [Nat.mul_add, Nat.pow_add]
 rw [e2]
 generalize 2 ^ (7 * j) = p at *
 have : (d + 1) * p ≤ 128 * p := Nat.mul_le_mul_right _ (by omega)
 rw [Nat.add_mul] at this
 omega
theorem i7 (j : Nat) (hj : j < 10) : i64 (7 * (j : Int)) = 7 * (j : Int) := i64_id (by omega) (by omega)
theorem i7n (j : Nat) : 0 ≤ 7 * (j : Int) := by omega
theorem ij1 (j : Nat) (hj : j < 10) : i64 ((j : Int) + 1) = ((j + 1 : Nat) : Int) := by rw [i64_id] <;> omega
theorem pow_split (j : Nat) (hj : j + 1 ≤ 9) : 2 ^ (64 - 7 * j) = 128 * 2 ^ (64 - 7 * (j + 1)) := by
 rw [show 64 - 7 * j = 7 + (64 - 7 * (j + 1)) by omega, Nat.pow_add]
theorem one_round (k j : Nat) (n : UInt64) (c : UInt8) (tl : Str) (hj : j < 10) (hb : ((((j : Int) == 9) && decide (1 < c)) || (decide (0 < (j : Int)) && (c == 0))) = false) :
  BG (k + 1) n (j : Int) (c :: tl) = if decide (c < 128) = true then some (.inl (n ||| shWl ((c % 128).toUInt64) (7 * (j : Int)), tl)) else BG k (n ||| shWl ((c % 128).toUInt64) (7 * (j : Int))) ((j + 1 : Nat) : Int) tl := by
 conv => lhs; unfold BG
 have e : decide ((j : Int) < 10) = true := by simp; omega
 rw [if_pos e, one_cons c tl, Option.bind_some]
 dsimp only [sm]
 have hg : gi [c] 0 = some c := rfl
 rw [hg, Option.bind_some, hb, if_neg (by decide), Option.bind_some]
 dsimp only
 rw [i7 j hj, if_pos (i7n j), ij1 j hj]
theorem unit_of (j : Nat) (hj : j ≤ 9) : (UInt64.ofNat (2 ^ (7 * j))).toNat = 2 ^ (7 * j) := by
 rw [UInt64.toNat_ofNat', Nat.mod_eq_of_lt (Nat.pow_lt_pow_right (by decide) (by omega))]
theorem read_last (j v : Nat) (n : UInt64) (rest : Str) (hj : j ≤ 9) (hv : v < 2 ^ (64 - 7 * j)) (hp : 0 < j → 0 < v) (h128 : v < 128) (hn : n.toNat < 2 ^ (7 * j)) (g : Nat) :
  ∃ m, BG (10 - j + 1) n (j : Int) (enc (g + 1) v ++ rest) = some (.inl (m, rest)) ∧ m.toNat = n.toNat + v * 2 ^ (7 * j) := by
 have hc : (UInt8.ofNat v).toNat = v := by rw [UInt8.toNat_ofNat']; omega
 have h9 : j = 9 → v ≤ 1 := fun e => by
  subst e
  have : (2 : Nat) ^ (64 - 7 * 9) = 2 := by decide
  omega
 have hb : ((((j : Int) == 9) && decide (1 < UInt8.ofNat v)) || (decide (0 < (j : Int)) && (UInt8.ofNat v == 0))) = false := by
  rw [Bool.or_eq_false_iff]
  constructor
  ·by_cases e : j = 9
   ·have : ¬ (1 < UInt8.ofNat v) := by
     rw [UInt8.lt_iff_toNat_lt, hc]
     have e0 : (1 : UInt8).toNat = 1 := by decide
     have := h9 e
     omega
    simp [this]
   ·have h1 : ((j : Int) == 9) = false := by simp; omega
    rw [h1]; rfl
  ·by_cases e : 0 < j
   ·have h2 : (UInt8.ofNat v == 0) = false := by
     rw [beq_eq_false_iff_ne]
     intro h
     have := congrArg UInt8.toNat h
     rw [hc] at this
     have e0 : (0 : UInt8).toNat = 0 := by decide
     have := hp e
     omega
    rw [h2, Bool.and_false]
   ·have h1 : decide (0 < (j : Int)) = false := by simp; omega
    rw [h1]; rfl
 have e : enc (g + 1) v ++ rest = UInt8.ofNat v :: rest := by
  unfold enc
  rw [if_pos h128]; rfl
 obtain ⟨v1, v2⟩ := digit_val n (UInt64.ofNat (2 ^ (7 * j))) (UInt8.ofNat v) j hj hn (unit_of j hj) (fun h => by rw [hc]; exact h9 h)
 rw [hc, Nat.mod_eq_of_lt h128] at v2
 have hlt : decide (UInt8.ofNat v < 128) = true := by
  rw [decide_eq_true_iff, UInt8.lt_iff_toNat_lt, hc]
  have e0 : (128 : UInt8).toNat = 128 := by decide
  omega
 rw [e, one_round (10 - j) j n _ _ (by omega) hb, if_pos hlt, v1]
 exact ⟨_, rfl, v2⟩
theorem read_loop : ∀ (g j v : Nat) (n : UInt64) (rest : Str), j ≤ 9 → v < 2 ^ (64 - 7 * j) → (0 < j → 0 < v) → v < 128 ^ (g + 1) → n.toNat < 2 ^ (7 * j) →
  ∃ m, BG (10 - j + 1) n (j : Int) (enc (g + 1) v ++ rest) = some (.inl (m, rest)) ∧ m.toNat = n.toNat + v * 2 ^ (7 * j) := by
 intro g
 induction g with
 | zero =>
  intro j v n rest hj hv hp hg hn
  have h128 : v < 128 := by simpa using hg
  exact read_last j v n rest hj hv hp h128 hn 0
 | succ g ih =>
  intro j v n rest hj hv hp hg hn
  by_cases h128 : v < 128
  ·exact read_last j v n rest hj hv hp h128 hn (g + 1)
  ·have hj9 : j + 1 ≤ 9 := by
    rcases Nat.lt_or_ge j 9 with h | h
    ·exact h
    ·obtain rfl : j = 9 := by omega
     have : (2 : Nat) ^ (64 - 7 * 9) = 2 := by decide
     omega
   have hc : (UInt8.ofNat (v % 128 + 128)).toNat = v % 128 + 128 := by rw [UInt8.toNat_ofNat']; omega
   have hb : ((((j : Int) == 9) && decide (1 < UInt8.ofNat (v % 128 + 128))) || (decide (0 < (j : Int)) && (UInt8.ofNat (v % 128 + 128) == 0))) = false := by
    have h1 : ((j : Int) == 9) = false := by simp; omega
    have h2 : (UInt8.ofNat (v % 128 + 128) == 0) = false := by
     rw [beq_eq_false_iff_ne]
     intro h
     have := congrArg UInt8.toNat h
     rw [hc] at this
     have e0 : (0 : UInt8).toNat = 0 := by decide
     omega
    rw [h1, h2]; simp
   have e : enc (g + 1 + 1) v ++ rest = UInt8.ofNat (v % 128 + 128) :: (enc (g + 1) (v / 128) ++ rest) := by
    conv => lhs; unfold enc
    rw [if_neg h128]; rfl
   have ek : 10 - j = 10 - (j + 1) + 1 := by omega
   obtain ⟨v1, v2⟩ := digit_val n (UInt64.ofNat (2 ^ (7 * j))) (UInt8.ofNat (v % 128 + 128)) j hj hn (unit_of j hj) (fun h => absurd h (by omega))
   rw [hc] at v2
   have hmod : (v % 128 + 128) % 128 = v % 128 := by omega
   rw [hmod] at v2
   have hlt : ¬ decide (UInt8.ofNat (v % 128 + 128) < 128) = true := by
    rw [decide_eq_true_iff, UInt8.lt_iff_toNat_lt, hc]
    have e0 : (128 : UInt8).toNat = 128 := by decide
    omega
   rw [e, one_round (10 - j) j n _ _ (by omega) hb, if_neg hlt, v1]
   have hn' := acc_next n.toNat (v % 128) j hn (Nat.mod_lt _ (by decide))
   rw [← v2] at hn'
   have hpow := pow_split j hj9
   have hdiv : v / 128 < 2 ^ (64 - 7 * (j + 1)) := Nat.div_lt_of_lt_mul (by rw [← hpow]; exact hv)
   have hg' : v / 128 < 128 ^ (g + 1) := Nat.div_lt_of_lt_mul (by rw [Nat.mul_comm, ← Nat.pow_succ]; exact hg)
   obtain ⟨m, h1, h2⟩ := ih (j + 1) (v / 128) _ rest hj9 hdiv (fun _ => by omega) hg' hn'
   rw [ek]
   refine ⟨m, h1, ?_⟩
   rw [h2, v2]
   have e2 : 2 ^ (7 * (j + 1)) = 2 ^ (7 * j) * 128 := by rw [Nat.mul_add, Nat.pow_add]
   rw [e2, Nat.add_assoc]
   congr 1
   have hv' := Nat.div_add_mod v 128
   generalize 2 ^ (7 * j) = p
   calc v % 128 * p + v / 128 * (p * 128) = (128 * (v / 128) + v % 128) * p := by rw [Nat.add_mul, Nat.mul_comm p 128, ← Nat.mul_assoc, Nat.mul_comm (v / 128) 128, Nat.add_comm]
    _ = v * p := by rw [hv']
theorem num_back (n top : UInt64) (rest : Str) (h : n ≤ top) : Ax ⟨enc 11 n.toNat ++ rest⟩ top = some (.inl (n, ⟨rest⟩)) := by
 have hn : n.toNat < 2 ^ 64 := n.toNat_lt
 obtain ⟨m, h1, h2⟩ := read_loop 10 0 n.toNat 0 rest (by omega) hn (by omega) (Nat.lt_of_lt_of_le hn (by decide)) (by decide)
 have e : m = n := by
  apply UInt64.toNat_inj.1
  have e0 : (0 : UInt64).toNat = 0 := by decide
  rw [h2, e0]; simp
 subst e
 have h1' : BG 11 0 0 (enc 11 m.toNat ++ rest) = some (.inl (m, rest)) := h1
 unfold Ax
 dsimp only
 rw [h1', Option.bind_some]
 dsimp only
 rw [if_neg]
 rw [decide_eq_true_eq, UInt64.lt_iff_toNat_lt]
 have := UInt64.le_iff_toNat_le.1 h
 omega
theorem bytes_back (a rest : Str) (k : Int) (hk : k = (a.length : Int)) : AH ⟨a ++ rest⟩ k = some (.inl (a, ⟨rest⟩)) := by
 subst hk
 have e1 : (decide ((a.length : Int) < 0) || decide (((a ++ rest).length : Int) < (a.length : Int))) = false := by simp; omega
 unfold AH
 simp only [e1, Bool.false_eq_true, if_false, Option.bind_some]
 rw [sl_lo (by omega) (by simp; omega), sl_hi (by omega) (by simp; omega)]
 simp
theorem must_t (s : Ai) : As s true = .inl () := by unfold As; rfl
theorem flag_back (b : Bool) (rest : Str) : CA ⟨(if b then 1 else 0) :: rest⟩ = some (.inl (b, ⟨rest⟩)) := by
 unfold CA
 rw [one_cons, Option.bind_some]
 cases b <;> rfl
end Go.Proofs.YthngfieikhillaaGreat.Pure
namespace Go.Proofs.YthngfieikhillaaGreat.Pure
open Go Go.Proofs.YthngfieikhillaaGreat.Hw Go.Proofs.YthngfieikhillaaGreat
theorem le15_loop (ra : Str × Ai) (y : List UInt8) (hy : ∀ x ∈ y, x ≤ 15) (hl : y.length ≤ 4096) : ∀ (f k : Nat), f = y.length - k + 1 → k ≤ y.length → CU ra y f (k : Int) = some (.inl ()) := by
 intro f
 induction f with
 | zero => intro k h; omega
 | succ f ih =>
  intro k hf hk
  unfold CU
  by_cases h : k < y.length
  ·have ei : i64 ((k : Int) + 1) = ((k + 1 : Nat) : Int) := by rw [i64_id] <;> omega
   rw [if_pos (by rw [decide_eq_true_eq]; omega), gN h, Option.bind_some, decide_eq_true (hy _ (List.getElem_mem h)), must_t, ei]
   exact ih (k + 1) (by omega) (by omega)
  ·rw [if_neg (by rw [decide_eq_true_eq]; omega)]
theorem take_row (ra2 : UInt64 × Ai) (w : Nat) (hw : i64 (ra2.1.toNat : Int) = (w : Int)) (hw2 : w ≤ 4096) (k : Nat) (s : Int) (hs : s < 4) (c : List (List UInt8)) (y r : List UInt8) (rest : Str) (hg : gi c s = some y)
  (hr : r.length = w) (hx : ∀ x ∈ r, x ≤ 15) : Cg ra2 (k + 1) s c (r ++ rest) = Cg ra2 k (i64 (s + 1)) (ls c s r) rest := by
 have L : CU (r, ⟨rest⟩) r (((r.length : Int) - 0).toNat + 1) 0 = some (.inl ()) := le15_loop _ r hx (by omega) _ 0 (by omega) (by omega)
 conv => lhs; unfold Cg
 rw [if_pos (by rw [decide_eq_true_eq]; exact hs), bytes_back r rest _ (by rw [hw, hr]), Option.bind_some]
 dsimp only [sm]
 rw [if_pos (by simp [maxLen]; omega), hg, Option.bind_some, gi_ls hg, Option.bind_some, L, Option.bind_some]
 dsimp only
 rw [Option.bind_some]
theorem take_door (x : Aj) (d : List Bool) (w : Nat) (hx : x.door.length = w) (hd : d.length = w) (hw2 : w ≤ 4096) (rest : Str) : ∀ (f k : Nat) (z : List Bool), f = w - k + 1 → k ≤ w → z.length = w →
  CF x f (k : Int) (bits (d.drop k) ++ rest) z = some (.inl (rest, z.take k ++ d.drop k)) := by
 intro f
 induction f with
 | zero => intro k z h; omega
 | succ f ih =>
  intro k z hf hk hz
  unfold CF
  rw [hx]
  by_cases h : k < w
  ·have hkd : k < d.length := by omega
   have hkz : k < z.length := by omega
   have ei : i64 ((k : Int) + 1) = ((k + 1 : Nat) : Int) := by rw [i64_id] <;> omega
   have eb : bits (d.drop k) ++ rest = (if d[k] then 1 else 0) :: (bits (d.drop (k + 1)) ++ rest) := by rw [DD d k hkd]; rfl
   rw [if_pos (by rw [decide_eq_true_eq]; omega), eb, flag_back, Option.bind_some]
   dsimp only [sm]
   rw [gN hkz, Option.bind_some, ei, lsN, ih (k + 1) _ (by omega) (by omega) (by rw [List.length_set]; exact hz), tk_set _ _ _ hkz, List.append_assoc, List.drop_eq_getElem_cons hkd]
   rfl
  ·obtain rfl : k = w := by omega
   rw [if_neg (by rw [decide_eq_true_eq]; omega), ← hd, List.drop_length, List.append_nil, List.take_of_length_le (by omega)]
   rfl
theorem toW_nat (n : Nat) (h : n ≤ 1000000) : (toW (n : Int)).toNat = n := by
 unfold toW
 rw [UInt64.toNat_ofNat']; omega
theorem rows_back (w : Nat) (W : UInt64) (R : Ai) (z a b c e : List UInt8) (rest : Str) (h2 : w ≤ 4096) (hi : i64 ((W.toNat : Nat) : Int) = (w : Int)) (ha : a.length = w) (hb : b.length = w) (hc : c.length = w) (he : e.length = w)
  (xa : ∀ x ∈ a, x ≤ 15) (xb : ∀ x ∈ b, x ≤ 15) (xc : ∀ x ∈ c, x ≤ 15) (xe : ∀ x ∈ e, x ≤ 15) : Cg (W, R) 5 0 [z, z, z, z] (a ++ (b ++ (c ++ (e ++ rest)))) = some (.inl ([a, b, c, e], rest)) := by
 have T := fun (k : Nat) (s' : Int) (hs' : s' < 4) (c : List (List UInt8)) (y r : List UInt8) (rest : Str) (hg : gi c s' = some y) (hr : r.length = w) (hx : ∀ x ∈ r, x ≤ 15) =>
  take_row (W, R) w hi h2 k s' hs' c y r rest hg hr hx
 rw [T 4 0 (by decide) _ _ a _ (g0 ..) ha xa, s0, j0, T 3 1 (by decide) _ _ b _ (g1 ..) hb xb, s1, j1, T 2 2 (by decide) _ _ c _ (g2 ..) hc xc, s2, j2, T 1 3 (by decide) _ _ e _ (g3 ..) he xe, s3, j3]
 unfold Cg
 rw [if_neg (by decide)]
theorem sm_inl {α β γ : Type} (a : α) (f : α → γ) (g : β → γ) : sm (Sum.inl a : α ⊕ β) f g = f a := rfl
theorem take_all (w : Nat) (T : UInt64) (P Q R : UInt64 × Ai) (rows : List (List UInt8)) (d : List Bool) (Z : Aj) (r0 st rest : Str) (hw : (1 : Int) ≤ (w : Int)) (hW : i64 ((P.1.toNat : Nat) : Int) = (w : Int)) (hT : toW (i64 (10 * (w : Int))) = T)
  (x1 : Ax ⟨r0⟩ 4096 = some (.inl P)) (x2 : Ax P.2 18446744073709551615 = some (.inl Q)) (x3 : Ax Q.2 (T - 1) = some (.inl R))
  (hn : CY (w : Int) Q.1 = some (some Z, 0)) (K : Cg P 5 0 Z.rows R.2.s = some (.inl (rows, st)))
  (D : CF Z (((Z.door.length : Int) - 0).toNat + 1) 0 st Z.door = some (.inl (rest, d))) : CW ⟨r0⟩ = some (.inl (some (⟨Z.wide, Z.seed, rows, d, i64 ((R.1.toNat : Nat) : Int)⟩ : Aj), ⟨rest⟩)) := by
 unfold CW
 rw [x1, Option.bind_some, sm_inl, hW, decide_eq_true hw, must_t, lt_eq, sm_inl, x2, Option.bind_some, sm_inl, hn, Option.bind_some, hT, x3, Option.bind_some, sm_inl, om_some, K, Option.bind_some]
 dsimp only
 rw [D, Option.bind_some]
theorem take_core (w : Nat) (seed W N T : UInt64) (rest : Str) (s : Sk) (h1 : 1 ≤ w) (h2 : w ≤ 4096) (hs : s.ok w) (hW : W.toNat = w) (hN : N.toNat = s.n) (hT : T.toNat = 10 * w) (eT : toW ((10 * w : Nat) : Int) = T) :
  CW ⟨enc 11 W.toNat ++ (enc 11 seed.toNat ++ (enc 11 N.toNat ++ (s.a ++ (s.b ++ (s.c ++ (s.e ++ (bits s.d ++ rest)))))))⟩ = some (.inl (some (s.C w seed), ⟨rest⟩)) := by
 have hn := hs.hn
 have ew : i64 ((w : Nat) : Int) = (w : Int) := i64_id (by omega) (by omega)
 have en : i64 ((s.n : Nat) : Int) = (s.n : Int) := i64_id (by omega) (by omega)
 have et : i64 (10 * (w : Int)) = ((10 * w : Nat) : Int) := by rw [i64_id (by omega) (by omega)]; omega
 have c4096 : (4096 : UInt64).toNat = 4096 := by decide
 have c1 : (1 : UInt64).toNat = 1 := by decide
 have cm : (18446744073709551615 : UInt64).toNat = 18446744073709551615 := by decide
 have b1 : W ≤ 4096 := by rw [UInt64.le_iff_toNat_le, hW, c4096]; exact h2
 have b2 : seed ≤ 18446744073709551615 := by rw [UInt64.le_iff_toNat_le, cm]; have := seed.toNat_lt; omega
 have b3 : N ≤ T - 1 := by
  rw [UInt64.le_iff_toNat_le, UInt64.toNat_sub_of_le _ _ (by rw [UInt64.le_iff_toNat_le, hT, c1]; omega), hT, hN, c1]; omega
 have x1 := num_back W 4096 (enc 11 seed.toNat ++ (enc 11 N.toNat ++ (s.a ++ (s.b ++ (s.c ++ (s.e ++ (bits s.d ++ rest))))))) b1
 have x2 := num_back seed 18446744073709551615 (enc 11 N.toNat ++ (s.a ++ (s.b ++ (s.c ++ (s.e ++ (bits s.d ++ rest)))))) b2
 have x3 := num_back N (T - 1) (s.a ++ (s.b ++ (s.c ++ (s.e ++ (bits s.d ++ rest))))) b3
 have K := rows_back w W ⟨enc 11 seed.toNat ++ (enc 11 N.toNat ++ (s.a ++ (s.b ++ (s.c ++ (s.e ++ (bits s.d ++ rest))))))⟩ (List.replicate w 0) s.a s.b s.c s.e (bits s.d ++ rest) h2 (by rw [hW, ew]) hs.ha hs.hb hs.hc hs.he hs.xa hs.xb hs.xc hs.xe
 have D := take_door (SK w seed (List.replicate w 0) (List.replicate w 0) (List.replicate w 0) (List.replicate w 0) (List.replicate w false) 0) s.d w (by simp) hs.hd h2 rest (((w : Int) - 0).toNat + 1) 0 (List.replicate w false) (by omega) (by omega) (by simp)
 rw [List.drop_zero, List.take_zero, List.nil_append] at D
 have el : (List.replicate w false).length = w := by simp
 generalize hZ : SK w seed (List.replicate w 0) (List.replicate w 0) (List.replicate w 0) (List.replicate w 0) (List.replicate w false) 0 = Z at D
 have hn1 : CY (w : Int) seed = some (some Z, 0) := by rw [← hZ]; exact new_c w seed h1 h2
 have z1 : Z.rows = [List.replicate w 0, List.replicate w 0, List.replicate w 0, List.replicate w 0] := by rw [← hZ]
 have z2 : Z.door = List.replicate w false := by rw [← hZ]
 have z3 : Z.wide = (w : Int) := by rw [← hZ]
 have z4 : Z.seed = seed := by rw [← hZ]
 have D' : CF Z (((w : Int) - 0).toNat + 1) 0 (bits s.d ++ rest) (List.replicate w false) = some (.inl (rest, s.d)) := D
 rw [take_all w T (W, ⟨_⟩) (seed, ⟨_⟩) (N, ⟨_⟩) [s.a, s.b, s.c, s.e] s.d Z _ (bits s.d ++ rest) rest (by omega) (by dsimp only; rw [hW, ew]) (by rw [et, eT]) x1 x2 x3 hn1 (by rw [z1]; exact K) (by rw [z2, el]; exact D'), z3, z4]
 dsimp only
 rw [hN, en]
theorem take_back (w : Nat) (seed : UInt64) (s : Sk) (rest : Str) (h1 : 1 ≤ w) (h2 : w ≤ 4096) (hs : s.ok w) : CW ⟨s.bytes w seed ++ rest⟩ = some (.inl (some (s.C w seed), ⟨rest⟩)) := by
 have hn := hs.hn
 have hW := toW_nat w (by omega)
 have hN := toW_nat s.n (by omega)
 have hT := toW_nat (10 * w) (by omega)
 unfold Sk.bytes
 generalize toW (w : Int) = W at hW ⊢
 generalize toW (s.n : Int) = N at hN ⊢
 generalize hE : toW ((10 * w : Nat) : Int) = T at hT
 have h := take_core w seed W N T rest s h1 h2 hs hW hN hT hE
 rw [← h]
 simp only [List.append_assoc]
end Go.Proofs.YthngfieikhillaaGreat.Pure
namespace Go.Proofs.YthngfieikhillaaGreat.Pure
open Go Go.Proofs.YthngfieikhillaaGreat.Hw
theorem toW_len (n : Nat) (h : n ≤ 100000) : (toW (n : Int)).toNat = n := by
 unfold toW
 rw [UInt64.toNat_ofNat']
 omega
theorem text_bytes (u : Str) (h : u.length ≤ 100000) : Dn u = some (enc 11 u.length ++ u) ∧ Ds u = some (enc 11 u.length ++ u) := by
 obtain ⟨e1, e2⟩ := num_enc (toW (u.length : Int))
 rw [toW_len _ h] at e1 e2
 have hl := enc_len 11 u.length
 have hm : (enc 11 u.length).length + u.length ≤ maxS := by unfold maxS; omega
 unfold Dn Ds
 rw [e1, e2, Option.bind_some, if_pos hm]
 exact ⟨rfl, rfl⟩
theorem bytes_ok (u rest : Str) (q : Int) (e : q = (u.length : Int)) : AH ⟨u ++ rest⟩ q = some (.inl (u, ⟨rest⟩)) := by
 subst e
 unfold AH
 dsimp only
 have e1 : (decide ((u.length : Int) < 0) || decide (((u ++ rest).length : Int) < (u.length : Int))) = false := by simp; omega
 rw [e1, if_neg (by decide), Option.bind_some]
 dsimp only
 rw [sl_lo (by omega) (by simp; omega), sl_hi (by omega) (by simp; omega), Option.bind_some, Option.bind_some]
 simp
theorem then_bytes (u rest : Str) (q : Int) (e : q = (u.length : Int)) : ((AH ⟨u ++ rest⟩ q).bind fun r6 => sm r6 (fun (ra8 : Str × Ai) => some (Sum.inl (ra8.1, ra8.2))) fun ((rn9, ro10) : Int × Ai) => some (Sum.inr (rn9, ro10))) = some (Sum.inl (u, ⟨rest⟩)) := by
 rw [bytes_ok u rest q e, Option.bind_some]
 rfl
theorem text_gen2 (w : UInt64 → Int) (s u rest : Str) (p x : UInt64) (hn : Ax ⟨s⟩ p = some (.inl (x, ⟨u ++ rest⟩))) (hw : w x = (u.length : Int)) :
  ((Ax ⟨s⟩ p).bind fun r0 => sm r0 (fun (ra2 : UInt64 × Ai) => (AH ra2.2 (w ra2.1)).bind fun r6 => sm r6 (fun (ra8 : Str × Ai) => some (Sum.inl (ra8.1, ra8.2))) fun ((rn9, ro10) : Int × Ai) => some (Sum.inr (rn9, ro10))) fun ((rn3, ro4) : Int × Ai) => some (Sum.inr (rn3, ro4))) = some (.inl (u, ⟨rest⟩)) := by
 rw [hn, Option.bind_some]
 exact then_bytes u rest (w x) hw
theorem text_back (u : Str) (rest : Str) (top : Int) (h : u.length ≤ 100000) (ht : (u.length : Int) ≤ top) (ht2 : top ≤ 100000) : Cz ⟨enc 11 u.length ++ (u ++ rest)⟩ top = some (.inl (u, ⟨rest⟩)) := by
 have hn := num_back (toW (u.length : Int)) (toW top) (u ++ rest) (by
  obtain ⟨t, rfl⟩ : ∃ t : Nat, top = (t : Int) := ⟨top.toNat, by omega⟩
  rw [UInt64.le_iff_toNat_le, toW_len _ h, toW_len _ (by omega)]
  omega)
 rw [toW_len _ h] at hn
 unfold Cz
 rw [if_neg (by omega)]
 exact text_gen2 (fun x => i64 (x.toNat : Int)) _ u rest _ _ hn (by
  show i64 ((toW (u.length : Int)).toNat : Int) = _
  rw [toW_len _ h]
  exact i64_id (by omega) (by omega))
end Go.Proofs.YthngfieikhillaaGreat.Pure
