import Derived.Test.YtlahbmoebbflbaaW6
import Derived.Test.YtlahbmoebbflbaaPmixA
import Derived.Test.YtlahbmoebbflbaaPskA
set_option linter.unusedVariables false
set_option linter.unusedSectionVars false
set_option linter.unusedSimpArgs false
set_option maxRecDepth 100000
set_option maxHeartbeats 8000000

namespace Go.Proofs.Ytlahbmoebbflbaa.Pure
open Go Go.Proofs.Ytlahbmoebbflbaa.Hw Go.Proofs.Ytlahbmoebbflbaa

theorem mks_ok {α : Type} (bytes w : Nat) (z : α) (hb : bytes ≤ 24) (hw : w ≤ 4096) : mks bytes (w : Int) z = some (List.replicate w z) := by
  unfold mks
  have : bytes * w ≤ 24 * 4096 := Nat.mul_le_mul hb hw
  rw [if_pos ⟨by omega, by rw [← Int.natCast_mul]; omega, by omega⟩]
  rfl
theorem apd_ok {α : Type} (bytes : Nat) (l r : List α) (hb : bytes ≤ 24) (hl : l.length + r.length ≤ 1000000) : apd bytes l r = some (l ++ r) := by
  unfold apd
  have : (l.length + r.length) * bytes ≤ 1000000 * 24 := Nat.mul_le_mul hl hb
  rw [if_pos (by omega)]
theorem cpy_ok {α : Type} (l r : List α) (h : l.length = r.length) (h0 : 0 < r.length) : cpy l r = some r := by
  unfold cpy
  rw [if_pos ⟨by omega, h0⟩, h, List.take_length, List.drop_of_length_le (by omega), List.append_nil]

/-! new -/
theorem new_c (w : Nat) (seed : UInt64) (h1 : 1 ≤ w) (h2 : w ≤ 4096) :
    sketch_New (w : Int) seed = some (some (SK w seed (List.replicate w 0) (List.replicate w 0) (List.replicate w 0) (List.replicate w 0) (List.replicate w false) 0), 0) := by
  unfold sketch_New
  rw [if_neg (by simp; omega), mks_ok 1 w _ (by decide) h2, Option.bind_some]
  unfold sketch_New_l0
  rw [if_pos (by decide), mks_ok 1 w _ (by decide) h2, Option.bind_some, g0, Option.bind_some, s0, j0]
  unfold sketch_New_l0
  rw [if_pos (by decide), mks_ok 1 w _ (by decide) h2, Option.bind_some, g1, Option.bind_some, s1, j1]
  unfold sketch_New_l0
  rw [if_pos (by decide), mks_ok 1 w _ (by decide) h2, Option.bind_some, g2, Option.bind_some, s2, j2]
  unfold sketch_New_l0
  rw [if_pos (by decide), mks_ok 1 w _ (by decide) h2, Option.bind_some, g3, Option.bind_some, s3, j3]
  unfold sketch_New_l0
  rw [if_neg (by decide), Option.bind_some]
  rfl
theorem N8_zero (w : Nat) : N8 (List.replicate w 0) = List.replicate w (0 : Int) := by simp [N8]
theorem new_m (w : Nat) (seed : UInt64) (h1 : 1 ≤ w) (h2 : w ≤ 4096) :
    hawthornref05_New (w : Int) seed = some (SM w seed (List.replicate w 0) (List.replicate w 0) (List.replicate w 0) (List.replicate w 0) (List.replicate w false) 0) := by
  have ap : ∀ (x y : List (List Int)), x.length ≤ 10 → y.length ≤ 10 → apd 24 x y = some (x ++ y) := fun x y hx hy => apd_ok 24 x y (by decide) (by omega)
  unfold hawthornref05_New
  rw [mks_ok 1 w _ (by decide) h2, Option.bind_some]
  unfold hawthornref05_New_l0
  rw [if_pos (by decide), mks_ok 8 w _ (by decide) h2, Option.bind_some, ap _ _ (by simp) (by simp), Option.bind_some, j0]
  unfold hawthornref05_New_l0
  rw [if_pos (by decide), mks_ok 8 w _ (by decide) h2, Option.bind_some, ap _ _ (by simp) (by simp), Option.bind_some, j1]
  unfold hawthornref05_New_l0
  rw [if_pos (by decide), mks_ok 8 w _ (by decide) h2, Option.bind_some, ap _ _ (by simp) (by simp), Option.bind_some, j2]
  unfold hawthornref05_New_l0
  rw [if_pos (by decide), mks_ok 8 w _ (by decide) h2, Option.bind_some, ap _ _ (by simp) (by simp), Option.bind_some, j3]
  unfold hawthornref05_New_l0
  rw [if_neg (by decide), Option.bind_some]
  show _ = some (⟨(w : Int), seed, [N8 (List.replicate w 0), N8 (List.replicate w 0), N8 (List.replicate w 0), N8 (List.replicate w 0)], List.replicate w false, ((0 : Nat) : Int)⟩ : hawthornref05_Sketch)
  rw [N8_zero]
  rfl

/-! ageing -/
theorem gi_ls {α : Type} {l : List α} {i : Int} {y z : α} (h : gi l i = some y) : gi (ls l i z) i = some z := by
  obtain ⟨⟨h0, h1⟩, h2⟩ := gi_some h
  unfold gi ls
  rw [if_pos h0]
  exact List.getElem?_set_self (by omega)
theorem ls_ls {α : Type} (l : List α) (i : Int) (y z : α) : ls (ls l i y) i z = ls l i z := by
  unfold ls; exact List.set_set ..
theorem ls_self {α : Type} {l : List α} {i : Int} {y : α} (h : gi l i = some y) : ls l i y = l := by
  obtain ⟨⟨h0, h1⟩, h2⟩ := gi_some h
  unfold ls
  have hl : i.toNat < l.length := by omega
  rw [List.getElem?_eq_getElem hl] at h2
  obtain rfl := Option.some.inj h2
  exact List.set_getElem_self hl
def hf (x : UInt8) : UInt8 := x / 2
theorem tk_set {α : Type} (l : List α) (k : Nat) (x : α) (h : k < l.length) : (l.set k x).take (k + 1) = l.take k ++ [x] := by
  rw [List.take_add_one, List.take_set_of_le (Nat.le_refl k)]
  congr 1
  rw [List.getElem?_set_self h]; rfl
theorem dr_set {α : Type} (l : List α) (k : Nat) (x : α) : (l.set k x).drop (k + 1) = l.drop (k + 1) := by
  rw [List.drop_set_of_lt (by omega)]
theorem age_in_c (s : Int) (z : List UInt8) (w : Nat) (hz : z.length = w) (hw : w ≤ 4096) : ∀ (f k : Nat) (c : List (List UInt8)) (y : List UInt8), f = w - k + 1 → k ≤ w → gi c s = some y → y.length = w →
    sketch_Sketch_Age_l1 s z f (k : Int) c = some (ls c s (y.take k ++ (y.drop k).map hf)) := by
  intro f
  induction f with
  | zero => intro k c y h; omega
  | succ f ih =>
    intro k c y h hk hg hy
    unfold sketch_Sketch_Age_l1
    by_cases h1 : k < w
    · have e : decide ((k : Int) < (z.length : Int)) = true := by simp; omega
      have ei : i64 ((k : Int) + 1) = ((k + 1 : Nat) : Int) := by rw [i64_id] <;> omega
      have hl : k < y.length := by omega
      rw [if_pos e, hg, Option.bind_some, gN hl, Option.bind_some, ei, lsN y]
      rw [ih (k + 1) _ (y.set k (y[k] / 2)) (by omega) (by omega) (gi_ls hg) (by rw [List.length_set]; exact hy), ls_ls, tk_set _ _ _ hl, dr_set, List.append_assoc]
      rw [List.drop_eq_getElem_cons hl, List.map_cons]
      rfl
    · obtain rfl : k = w := by omega
      have e : ¬ decide ((k : Int) < (z.length : Int)) = true := by simp; omega
      rw [if_neg e, List.drop_of_length_le (by omega), List.map_nil, List.append_nil, List.take_of_length_le (by omega), ls_self hg]
theorem half_i (x : UInt8) : i64 (((x.toNat : Nat) : Int).tdiv 2) = (((hf x).toNat : Nat) : Int) := by
  unfold hf
  have e2 : (2 : UInt8).toNat = 2 := by decide
  have := x.toNat_lt
  rw [UInt8.toNat_div, e2, Int.tdiv_eq_ediv_of_nonneg (by omega), i64_id (by omega) (by omega)]
  omega
theorem age_in_m (m : hawthornref05_Sketch) (s : Int) (r : List UInt8) (w : Nat) (hr : r.length = w) (hW : m.Wide = (w : Int)) (hR : gi m.Rows s = some (N8 r)) (hw : w ≤ 4096) : ∀ (f k : Nat) (c : List (List Int)) (y : List Int), f = w - k + 1 → k ≤ w → gi c s = some y → y.length = w →
    hawthornref05_Sketch_Age_l1 m s f (k : Int) c = some (ls c s (y.take k ++ N8 ((r.drop k).map hf))) := by
  intro f
  induction f with
  | zero => intro k c y h; omega
  | succ f ih =>
    intro k c y h hk hg hy
    unfold hawthornref05_Sketch_Age_l1
    rw [hW]
    by_cases h1 : k < w
    · have e : decide ((k : Int) < (w : Int)) = true := by simp; omega
      have ei : i64 ((k : Int) + 1) = ((k + 1 : Nat) : Int) := by rw [i64_id] <;> omega
      have hl : k < y.length := by omega
      have hl2 : k < r.length := by omega
      rw [if_pos e, hg, Option.bind_some, hR, Option.bind_some, gN8 hl2, Option.bind_some, gN hl, Option.bind_some, ei, half_i, lsN y]
      rw [ih (k + 1) _ (y.set k (((hf r[k]).toNat : Nat) : Int)) (by omega) (by omega) (gi_ls hg) (by rw [List.length_set]; exact hy), ls_ls, tk_set _ _ _ hl, List.append_assoc]
      rw [List.drop_eq_getElem_cons hl2, List.map_cons]
      rfl
    · obtain rfl : k = w := by omega
      have e : ¬ decide ((k : Int) < (k : Int)) = true := by simp
      rw [if_neg e, List.drop_of_length_le (by omega), List.map_nil, List.take_of_length_le (by omega)]
      show _ = some (ls c s (y ++ []))
      rw [List.append_nil, ls_self hg]

section
variable {w : Nat} {seed : UInt64} {a b c e : List UInt8} {d : List Bool} {n : Nat}
variable (ha : a.length = w) (hb : b.length = w) (hc : c.length = w) (he : e.length = w) (hd : d.length = w) (h1 : 1 ≤ w) (h2 : w ≤ 4096) (hn : n ≤ 1000000)
include ha hb hc he hd h1 h2 hn
omit ha hb hc he hd h1 h2 in
theorem half_n : i64 (((n : Nat) : Int).tdiv 2) = ((n / 2 : Nat) : Int) := by
  rw [Int.tdiv_eq_ediv_of_nonneg (by omega), i64_id (by omega) (by omega)]
  omega
theorem age_c : sketch_Sketch_Age (SK w seed a b c e d n) = some (SK w seed (a.map hf) (b.map hf) (c.map hf) (e.map hf) (List.replicate w false) (n / 2)) := by
  have I := fun (s : Int) (z : List UInt8) (hz : z.length = w) (r : List (List UInt8)) (hg : gi r s = some z) => age_in_c s z w hz h2 (((z.length : Int) - 0).toNat + 1) 0 r z (by omega) (by omega) hg hz
  simp only [List.take_zero, List.drop_zero, List.nil_append] at I
  unfold sketch_Sketch_Age
  dsimp only
  unfold sketch_Sketch_Age_l0
  rw [if_pos (by decide), g0, Option.bind_some, show sketch_Sketch_Age_l1 0 a (((a.length : Int) - 0).toNat + 1) 0 [a, b, c, e] = _ from I 0 a ha _ (g0 ..), Option.bind_some, Option.bind_some, s0, j0]
  unfold sketch_Sketch_Age_l0
  rw [if_pos (by decide), g1, Option.bind_some, show sketch_Sketch_Age_l1 1 b (((b.length : Int) - 0).toNat + 1) 0 _ = _ from I 1 b hb _ (g1 ..), Option.bind_some, Option.bind_some, s1, j1]
  unfold sketch_Sketch_Age_l0
  rw [if_pos (by decide), g2, Option.bind_some, show sketch_Sketch_Age_l1 2 c (((c.length : Int) - 0).toNat + 1) 0 _ = _ from I 2 c hc _ (g2 ..), Option.bind_some, Option.bind_some, s2, j2]
  unfold sketch_Sketch_Age_l0
  rw [if_pos (by decide), g3, Option.bind_some, show sketch_Sketch_Age_l1 3 e (((e.length : Int) - 0).toNat + 1) 0 _ = _ from I 3 e he _ (g3 ..), Option.bind_some, Option.bind_some, s3, j3]
  unfold sketch_Sketch_Age_l0
  rw [if_neg (by decide), Option.bind_some, half_n hn, hd]
theorem age_m : hawthornref05_Sketch_Age (SM w seed a b c e d n) = some (SM w seed (a.map hf) (b.map hf) (c.map hf) (e.map hf) (List.replicate w false) (n / 2)) := by
  have I := fun (s : Int) (z : List UInt8) (hz : z.length = w) (y : List Int) (hy : y.length = w) (r : List (List Int)) (hm : gi (SM w seed a b c e d n).Rows s = some (N8 z)) (hg : gi r s = some y) =>
    age_in_m (SM w seed a b c e d n) s z w hz rfl hm h2 ((((w : Nat) : Int) - 0).toNat + 1) 0 r y (by omega) (by omega) hg hy
  simp only [List.take_zero, List.drop_zero, List.nil_append] at I
  have hr : (N8 (List.replicate w 0)).length = w := by rw [N8_len]; simp
  unfold hawthornref05_Sketch_Age
  dsimp only
  rw [new_m w seed h1 h2, Option.bind_some]
  unfold hawthornref05_Sketch_Age_l0
  rw [if_pos (by decide), show hawthornref05_Sketch_Age_l1 (SM w seed a b c e d n) 0 ((((w : Nat) : Int) - 0).toNat + 1) 0 _ = _ from I 0 a ha _ hr _ (g0 ..) (g0 ..), Option.bind_some, Option.bind_some, s0, j0]
  unfold hawthornref05_Sketch_Age_l0
  rw [if_pos (by decide), show hawthornref05_Sketch_Age_l1 (SM w seed a b c e d n) 1 ((((w : Nat) : Int) - 0).toNat + 1) 0 _ = _ from I 1 b hb _ hr _ (g1 ..) (g1 ..), Option.bind_some, Option.bind_some, s1, j1]
  unfold hawthornref05_Sketch_Age_l0
  rw [if_pos (by decide), show hawthornref05_Sketch_Age_l1 (SM w seed a b c e d n) 2 ((((w : Nat) : Int) - 0).toNat + 1) 0 _ = _ from I 2 c hc _ hr _ (g2 ..) (g2 ..), Option.bind_some, Option.bind_some, s2, j2]
  unfold hawthornref05_Sketch_Age_l0
  rw [if_pos (by decide), show hawthornref05_Sketch_Age_l1 (SM w seed a b c e d n) 3 ((((w : Nat) : Int) - 0).toNat + 1) 0 _ = _ from I 3 e he _ hr _ (g3 ..) (g3 ..), Option.bind_some, Option.bind_some, s3, j3]
  unfold hawthornref05_Sketch_Age_l0
  rw [if_neg (by decide), Option.bind_some, half_n hn]
end
end Go.Proofs.Ytlahbmoebbflbaa.Pure
