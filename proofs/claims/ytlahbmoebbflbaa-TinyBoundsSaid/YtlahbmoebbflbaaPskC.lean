import Derived.Test.YtlahbmoebbflbaaW6
import Derived.Test.YtlahbmoebbflbaaPmixA
import Derived.Test.YtlahbmoebbflbaaPskA
import Derived.Test.YtlahbmoebbflbaaPskB
set_option linter.unusedVariables false
set_option linter.unusedSectionVars false
set_option linter.unusedSimpArgs false
set_option maxRecDepth 100000
set_option maxHeartbeats 8000000

namespace Go.Proofs.Ytlahbmoebbflbaa.Pure
open Go Go.Proofs.Ytlahbmoebbflbaa.Hw Go.Proofs.Ytlahbmoebbflbaa

/-! the sketch as a whole -/
structure Sk where
  a : List UInt8
  b : List UInt8
  c : List UInt8
  e : List UInt8
  d : List Bool
  n : Nat
namespace Sk
abbrev C (s : Sk) (w : Nat) (seed : UInt64) : sketch_Sketch := SK w seed s.a s.b s.c s.e s.d s.n
abbrev M (s : Sk) (w : Nat) (seed : UInt64) : hawthornref05_Sketch := SM w seed s.a s.b s.c s.e s.d s.n
structure ok (s : Sk) (w : Nat) : Prop where
  ha : s.a.length = w
  hb : s.b.length = w
  hc : s.c.length = w
  he : s.e.length = w
  hd : s.d.length = w
  hn : s.n < 10 * w
  xa : ∀ x ∈ s.a, x ≤ 15
  xb : ∀ x ∈ s.b, x ≤ 15
  xc : ∀ x ∈ s.c, x ≤ 15
  xe : ∀ x ∈ s.e, x ≤ 15
end Sk
structure Ps where
  p0 : Nat
  p1 : Nat
  p2 : Nat
  p3 : Nat
  p4 : Nat
structure Pk (w : Nat) (seed : UInt64) (key : Str) (p : Ps) : Prop where
  k0 : At w seed key 0 p.p0
  k1 : At w seed key 1 p.p1
  k2 : At w seed key 2 p.p2
  k3 : At w seed key 3 p.p3
  k4 : At w seed key 4 p.p4
theorem pk_ex (w : Nat) (seed : UInt64) (key : Str) (hw : 1 ≤ w) (hw2 : w ≤ 4096) (hk : key.length ≤ 100000) : ∃ p, Pk w seed key p := by
  obtain ⟨p0, h0⟩ := at_ex w seed key 0 hw hw2 hk
  obtain ⟨p1, h1⟩ := at_ex w seed key 1 hw hw2 hk
  obtain ⟨p2, h2⟩ := at_ex w seed key 2 hw hw2 hk
  obtain ⟨p3, h3⟩ := at_ex w seed key 3 hw hw2 hk
  obtain ⟨p4, h4⟩ := at_ex w seed key 4 hw hw2 hk
  exact ⟨⟨p0, p1, p2, p3, p4⟩, ⟨h0, h1, h2, h3, h4⟩⟩
namespace Sk
def least (s : Sk) (p : Ps) : UInt8 := mn (s.e.getD p.p3 0) (mn (s.c.getD p.p2 0) (mn (s.b.getD p.p1 0) (mn (s.a.getD p.p0 0) 15)))
def seen (s : Sk) (p : Ps) : Nat := if s.d.getD p.p4 false then (s.least p).toNat + 1 else (s.least p).toNat
def add (s : Sk) (p : Ps) : Sk :=
  if s.d.getD p.p4 false then ⟨up s.a p.p0 (s.least p), up s.b p.p1 (s.least p), up s.c p.p2 (s.least p), up s.e p.p3 (s.least p), s.d, s.n + 1⟩
  else ⟨s.a, s.b, s.c, s.e, s.d.set p.p4 true, s.n + 1⟩
def age (s : Sk) (w : Nat) : Sk := ⟨s.a.map hf, s.b.map hf, s.c.map hf, s.e.map hf, List.replicate w false, s.n / 2⟩
def put (s : Sk) (w : Nat) (p : Ps) : Sk := if 10 * w ≤ (s.add p).n then (s.add p).age w else s.add p
end Sk
theorem i_succ (k : Nat) (h : k < 256) : i64 ((k : Int) + 1) = ((k + 1 : Nat) : Int) := by
  rw [i64_id (by omega) (by omega)]; rfl
theorem getD_e {α : Type} {l : List α} {p : Nat} {z : α} (h : p < l.length) : l.getD p z = l[p] := by
  rw [List.getD_eq_getElem?_getD, List.getElem?_eq_getElem h]; rfl

theorem up_c {c : List (List UInt8)} {s : Int} {l : List UInt8} {p : Nat} (m : UInt8) (hg : gi c s = some l) (hp : p < l.length) :
    (if ((l[p] == m) && decide (m < 15)) then some (ls c s (ls l (p : Int) (l[p] + 1))) else some c) = some (ls c s (up l p m)) := by
  unfold up
  rw [getD_e hp, lsN]
  by_cases h : l[p] = m ∧ m < 15
  · rw [if_pos h, if_pos (by simp [h.1, h.2]), h.1]
  · rw [if_neg h, if_neg (by simpa using h), ls_self hg]
theorem up_m {c : List (List Int)} {s : Int} {l : List UInt8} {p : Nat} (m : UInt8) (hg : gi c s = some (N8 l)) (hp : p < l.length) :
    (if ((((l[p].toNat : Nat) : Int) == ((m.toNat : Nat) : Int)) && decide (((m.toNat : Nat) : Int) < 15)) then (some (N8 l)).bind fun y67 => (gi y67 (p : Int)).bind fun x70 => some (ls c s (ls y67 (p : Int) (i64 (x70 + 1)))) else some c) = some (ls c s (N8 (up l p m))) := by
  have e15 : (15 : UInt8).toNat = 15 := by decide
  rw [Option.bind_some, gN8 hp, Option.bind_some, lsN (N8 l)]
  unfold up
  rw [getD_e hp]
  by_cases h : l[p] = m ∧ m < 15
  · have h15 := UInt8.lt_iff_toNat_lt.1 h.2
    rw [if_pos h, if_pos (by rw [h.1]; simp; omega), h.1]
    have e : i64 (((m.toNat : Nat) : Int) + 1) = (((m + 1).toNat : Nat) : Int) := by
      rw [i64_id (by omega) (by omega), UInt8.toNat_add]
      have : (1 : UInt8).toNat = 1 := by decide
      omega
    rw [e, N8_set]
  · rw [if_neg h, if_neg ?_, ls_self hg]
    simp only [Bool.and_eq_true, beq_iff_eq, decide_eq_true_eq]
    intro ⟨q1, q2⟩
    exact h ⟨UInt8.toNat_inj.1 (by omega), UInt8.lt_iff_toNat_lt.2 (by omega)⟩

theorem up_m' {c : List (List Int)} {s : Int} {l : List UInt8} {p : Nat} (m : UInt8) (hg : gi c s = some (N8 l)) (hp : p < l.length) :
    (if ((((l[p].toNat : Nat) : Int) == ((m.toNat : Nat) : Int)) && decide (((m.toNat : Nat) : Int) < 15)) then (gi c s).bind fun y67 => (gi y67 (p : Int)).bind fun x70 => some (ls c s (ls y67 (p : Int) (i64 (x70 + 1)))) else some c) = some (ls c s (N8 (up l p m))) := by
  have h := up_m m hg hp
  rw [hg]
  exact h

section
variable {w : Nat} {seed : UInt64} {key : Str} {s : Sk} {p : Ps} (h1 : 1 ≤ w) (h2 : w ≤ 4096) (hs : s.ok w) (hp : Pk w seed key p)
include h1 h2 hs hp
theorem Least_c : sketch_Sketch_least (s.C w seed) key = some (s.least p) := by
  rw [least_c hs.ha hs.hb hs.hc hs.he hp.k0 hp.k1 hp.k2 hp.k3]
  unfold Sk.least
  rw [getD_e (hs.he ▸ hp.k3.lt), getD_e (hs.hc ▸ hp.k2.lt), getD_e (hs.hb ▸ hp.k1.lt), getD_e (hs.ha ▸ hp.k0.lt)]
theorem Least_m : hawthornref05_Sketch_least (s.M w seed) key = some (((s.least p).toNat : Nat) : Int) := by
  rw [least_m hs.ha hs.hb hs.hc hs.he hp.k0 hp.k1 hp.k2 hp.k3]
  unfold Sk.least
  rw [getD_e (hs.he ▸ hp.k3.lt), getD_e (hs.hc ▸ hp.k2.lt), getD_e (hs.hb ▸ hp.k1.lt), getD_e (hs.ha ▸ hp.k0.lt)]
theorem Seen_c : sketch_Sketch_Seen (s.C w seed) key = some ((s.seen p : Nat) : Int) := by
  have l4 : p.p4 < s.d.length := hs.hd ▸ hp.k4.lt
  unfold sketch_Sketch_Seen Sk.seen
  rw [Least_c h1 h2 hs hp, Option.bind_some, hp.k4.c, Option.bind_some]
  dsimp only
  rw [gN l4, Option.bind_some, getD_e l4]
  have : (s.least p).toNat < 256 := (s.least p).toNat_lt
  by_cases h : s.d[p.p4] = true
  · rw [if_pos h, if_pos h, i_succ _ this]
  · rw [if_neg h, if_neg h]
theorem Seen_m : hawthornref05_Sketch_Seen (s.M w seed) key = some ((s.seen p : Nat) : Int) := by
  have l4 : p.p4 < s.d.length := hs.hd ▸ hp.k4.lt
  unfold hawthornref05_Sketch_Seen Sk.seen
  rw [Least_m h1 h2 hs hp, Option.bind_some, hp.k4.m, Option.bind_some]
  dsimp only
  rw [gN l4, Option.bind_some, getD_e l4]
  have : (s.least p).toNat < 256 := (s.least p).toNat_lt
  by_cases h : s.d[p.p4] = true
  · rw [if_pos h, if_pos h, i_succ _ this]
  · rw [if_neg h, if_neg h]
theorem rows_c (m : UInt8) : sketch_Sketch_Add_l0 (s.C w seed) key m 5 0 [s.a, s.b, s.c, s.e] = some [up s.a p.p0 m, up s.b p.p1 m, up s.c p.p2 m, up s.e p.p3 m] := by
  have l0 : p.p0 < s.a.length := hs.ha ▸ hp.k0.lt
  have l1 : p.p1 < s.b.length := hs.hb ▸ hp.k1.lt
  have l2 : p.p2 < s.c.length := hs.hc ▸ hp.k2.lt
  have l3 : p.p3 < s.e.length := hs.he ▸ hp.k3.lt
  unfold sketch_Sketch_Add_l0
  rw [if_pos (by decide), hp.k0.c, Option.bind_some, g0, Option.bind_some, gN l0, Option.bind_some, up_c m (g0 ..) l0, Option.bind_some, s0, j0]
  unfold sketch_Sketch_Add_l0
  rw [if_pos (by decide), hp.k1.c, Option.bind_some, g1, Option.bind_some, gN l1, Option.bind_some, up_c m (g1 ..) l1, Option.bind_some, s1, j1]
  unfold sketch_Sketch_Add_l0
  rw [if_pos (by decide), hp.k2.c, Option.bind_some, g2, Option.bind_some, gN l2, Option.bind_some, up_c m (g2 ..) l2, Option.bind_some, s2, j2]
  unfold sketch_Sketch_Add_l0
  rw [if_pos (by decide), hp.k3.c, Option.bind_some, g3, Option.bind_some, gN l3, Option.bind_some, up_c m (g3 ..) l3, Option.bind_some, s3, j3]
  unfold sketch_Sketch_Add_l0
  rw [if_neg (by decide)]
theorem rows_m (m : UInt8) : hawthornref05_Sketch_Add_l0 (s.M w seed) key ((m.toNat : Nat) : Int) 5 0 [N8 s.a, N8 s.b, N8 s.c, N8 s.e] = some [N8 (up s.a p.p0 m), N8 (up s.b p.p1 m), N8 (up s.c p.p2 m), N8 (up s.e p.p3 m)] := by
  have l0 : p.p0 < s.a.length := hs.ha ▸ hp.k0.lt
  have l1 : p.p1 < s.b.length := hs.hb ▸ hp.k1.lt
  have l2 : p.p2 < s.c.length := hs.hc ▸ hp.k2.lt
  have l3 : p.p3 < s.e.length := hs.he ▸ hp.k3.lt
  unfold hawthornref05_Sketch_Add_l0
  rw [if_pos (by decide), hp.k0.m, Option.bind_some, show gi (s.M w seed).Rows 0 = _ from g0 .., Option.bind_some, gN8 l0, Option.bind_some, up_m m (g0 ..) l0, Option.bind_some, s0, j0]
  unfold hawthornref05_Sketch_Add_l0
  rw [if_pos (by decide), hp.k1.m, Option.bind_some, show gi (s.M w seed).Rows 1 = _ from g1 .., Option.bind_some, gN8 l1, Option.bind_some, up_m' m (g1 ..) l1, Option.bind_some, s1, j1]
  unfold hawthornref05_Sketch_Add_l0
  rw [if_pos (by decide), hp.k2.m, Option.bind_some, show gi (s.M w seed).Rows 2 = _ from g2 .., Option.bind_some, gN8 l2, Option.bind_some, up_m' m (g2 ..) l2, Option.bind_some, s2, j2]
  unfold hawthornref05_Sketch_Add_l0
  rw [if_pos (by decide), hp.k3.m, Option.bind_some, show gi (s.M w seed).Rows 3 = _ from g3 .., Option.bind_some, gN8 l3, Option.bind_some, up_m' m (g3 ..) l3, Option.bind_some, s3, j3]
  unfold hawthornref05_Sketch_Add_l0
  rw [if_neg (by decide)]
omit hp in
theorem copy_m (z : List Int) (hz : z.length = w) : hawthornref05_Sketch_Add_l1 (s.M w seed) 5 0 [z, z, z, z] = some [N8 s.a, N8 s.b, N8 s.c, N8 s.e] := by
  have cp : ∀ r : List UInt8, r.length = w → cpy z (N8 r) = some (N8 r) := fun r hr => cpy_ok _ _ (by rw [N8_len]; omega) (by rw [N8_len]; omega)
  unfold hawthornref05_Sketch_Add_l1
  rw [if_pos (by decide), g0, Option.bind_some, show gi (s.M w seed).Rows 0 = _ from g0 .., Option.bind_some, cp _ hs.ha, Option.bind_some, s0, j0]
  unfold hawthornref05_Sketch_Add_l1
  rw [if_pos (by decide), g1, Option.bind_some, show gi (s.M w seed).Rows 1 = _ from g1 .., Option.bind_some, cp _ hs.hb, Option.bind_some, s1, j1]
  unfold hawthornref05_Sketch_Add_l1
  rw [if_pos (by decide), g2, Option.bind_some, show gi (s.M w seed).Rows 2 = _ from g2 .., Option.bind_some, cp _ hs.hc, Option.bind_some, s2, j2]
  unfold hawthornref05_Sketch_Add_l1
  rw [if_pos (by decide), g3, Option.bind_some, show gi (s.M w seed).Rows 3 = _ from g3 .., Option.bind_some, cp _ hs.he, Option.bind_some, s3, j3]
  unfold hawthornref05_Sketch_Add_l1
  rw [if_neg (by decide)]
omit hp in
theorem Age_c : sketch_Sketch_Age (s.C w seed) = some ((s.age w).C w seed) := by
  have := hs.hn
  exact age_c hs.ha hs.hb hs.hc hs.he hs.hd h1 h2 (by omega)
omit hp in
theorem Age_m : hawthornref05_Sketch_Age (s.M w seed) = some ((s.age w).M w seed) := by
  have := hs.hn
  exact age_m hs.ha hs.hb hs.hc hs.he hs.hd h1 h2 (by omega)
omit h1 h2 hp in
theorem add_lens : (s.add p).a.length = w ∧ (s.add p).b.length = w ∧ (s.add p).c.length = w ∧ (s.add p).e.length = w ∧ (s.add p).d.length = w ∧ (s.add p).n = s.n + 1 := by
  unfold Sk.add
  split
  · simp only [up_len]; exact ⟨hs.ha, hs.hb, hs.hc, hs.he, hs.hd, trivial⟩
  · simp only [List.length_set]; exact ⟨hs.ha, hs.hb, hs.hc, hs.he, hs.hd, trivial⟩
omit hs hp in
theorem fin_c (S : Sk) (n : Nat) (la : S.a.length = w) (lb : S.b.length = w) (lc : S.c.length = w) (le : S.e.length = w) (ld : S.d.length = w) (ln : S.n = n + 1) (hn : n < 10 * w) :
    (if decide ((i64 (10 * ((w : Nat) : Int))) ≤ (i64 (((n : Nat) : Int) + 1))) then (sketch_Sketch_Age (⟨(w : Int), seed, [S.a, S.b, S.c, S.e], S.d, i64 (((n : Nat) : Int) + 1)⟩ : sketch_Sketch)).bind fun r12 => some r12 else some (⟨(w : Int), seed, [S.a, S.b, S.c, S.e], S.d, i64 (((n : Nat) : Int) + 1)⟩ : sketch_Sketch)) = some ((if 10 * w ≤ S.n then S.age w else S).C w seed) := by
  have en : i64 (((n : Nat) : Int) + 1) = ((S.n : Nat) : Int) := by rw [i64_id (by omega) (by omega)]; omega
  have ew : i64 (10 * ((w : Nat) : Int)) = 10 * ((w : Nat) : Int) := i64_id (by omega) (by omega)
  rw [en, ew]
  have ag := age_c (seed := seed) (n := S.n) la lb lc le ld h1 h2 (by omega)
  by_cases h : 10 * w ≤ S.n
  · rw [if_pos (by rw [decide_eq_true_eq]; omega), if_pos h, ag, Option.bind_some]
    rfl
  · rw [if_neg (by rw [decide_eq_true_eq]; omega), if_neg h]
theorem Add_c : sketch_Sketch_Add (s.C w seed) key = some ((s.put w p).C w seed) := by
  have l4 : p.p4 < s.d.length := hs.hd ▸ hp.k4.lt
  have hn := hs.hn
  obtain ⟨la, lb, lc, le, ld, ln⟩ := add_lens hs (p := p)
  unfold sketch_Sketch_Add
  rw [hp.k4.c, Option.bind_some]
  dsimp only
  rw [gN l4, Option.bind_some]
  have key2 : (if (!s.d[p.p4]) = true then some (ls s.d (p.p4 : Int) true, [s.a, s.b, s.c, s.e]) else (sketch_Sketch_least (s.C w seed) key).bind fun r16 => Option.bind (sketch_Sketch_Add_l0 (s.C w seed) key r16 5 0 [s.a, s.b, s.c, s.e]) fun p18 => some (s.d, p18)) = some ((s.add p).d, [(s.add p).a, (s.add p).b, (s.add p).c, (s.add p).e]) := by
    unfold Sk.add
    rw [getD_e l4]
    by_cases h : s.d[p.p4] = true
    · rw [if_neg (by simp [h]), if_pos h, Least_c h1 h2 hs hp, Option.bind_some, rows_c h1 h2 hs hp, Option.bind_some]
    · rw [if_pos (by simp [h]), if_neg h, lsN]
  rw [key2, Option.bind_some]
  exact fin_c h1 h2 (s.add p) s.n la lb lc le ld ln hn
omit hs hp in
theorem fin_m (S : Sk) (n : Nat) (la : S.a.length = w) (lb : S.b.length = w) (lc : S.c.length = w) (le : S.e.length = w) (ld : S.d.length = w) (ln : S.n = n + 1) (hn : n < 10 * w) :
    (if decide ((i64 (10 * ((w : Nat) : Int))) ≤ (i64 (((n : Nat) : Int) + 1))) then (hawthornref05_Sketch_Age (⟨(w : Int), seed, [N8 S.a, N8 S.b, N8 S.c, N8 S.e], S.d, i64 (((n : Nat) : Int) + 1)⟩ : hawthornref05_Sketch)).bind fun r12 => some r12 else some (⟨(w : Int), seed, [N8 S.a, N8 S.b, N8 S.c, N8 S.e], S.d, i64 (((n : Nat) : Int) + 1)⟩ : hawthornref05_Sketch)) = some ((if 10 * w ≤ S.n then S.age w else S).M w seed) := by
  have en : i64 (((n : Nat) : Int) + 1) = ((S.n : Nat) : Int) := by rw [i64_id (by omega) (by omega)]; omega
  have ew : i64 (10 * ((w : Nat) : Int)) = 10 * ((w : Nat) : Int) := i64_id (by omega) (by omega)
  rw [en, ew]
  have ag := age_m (seed := seed) (n := S.n) la lb lc le ld h1 h2 (by omega)
  by_cases h : 10 * w ≤ S.n
  · rw [if_pos (by rw [decide_eq_true_eq]; omega), if_pos h, ag, Option.bind_some]
    rfl
  · rw [if_neg (by rw [decide_eq_true_eq]; omega), if_neg h]
theorem Add_m : hawthornref05_Sketch_Add (s.M w seed) key = some ((s.put w p).M w seed) := by
  have l4 : p.p4 < s.d.length := hs.hd ▸ hp.k4.lt
  have hn := hs.hn
  obtain ⟨la, lb, lc, le, ld, ln⟩ := add_lens hs (p := p)
  unfold hawthornref05_Sketch_Add
  dsimp only
  rw [new_m w seed h1 h2, Option.bind_some]
  dsimp only
  rw [cpy_ok _ _ (by simp [hs.hd]) (by have := hs.hd; omega), Option.bind_some]
  rw [copy_m h1 h2 hs _ (by rw [N8_len]; simp), Option.bind_some, hp.k4.m, Option.bind_some, gN l4, Option.bind_some]
  have key2 : (if (!s.d[p.p4]) = true then some (ls s.d (p.p4 : Int) true, [N8 s.a, N8 s.b, N8 s.c, N8 s.e]) else (hawthornref05_Sketch_least (s.M w seed) key).bind fun r41 => Option.bind (hawthornref05_Sketch_Add_l0 (s.M w seed) key r41 5 0 [N8 s.a, N8 s.b, N8 s.c, N8 s.e]) fun p43 => some (s.d, p43)) = some ((s.add p).d, [N8 (s.add p).a, N8 (s.add p).b, N8 (s.add p).c, N8 (s.add p).e]) := by
    unfold Sk.add
    rw [getD_e l4]
    by_cases h : s.d[p.p4] = true
    · rw [if_neg (by simp [h]), if_pos h, Least_m h1 h2 hs hp, Option.bind_some, rows_m h1 h2 hs hp, Option.bind_some]
    · rw [if_pos (by simp [h]), if_neg h, lsN]
  have key3 := key2
  simp only [Option.bind_some] at key3 ⊢
  rw [key3, Option.bind_some]
  exact fin_m h1 h2 (s.add p) s.n la lb lc le ld ln hn
end
end Go.Proofs.Ytlahbmoebbflbaa.Pure
