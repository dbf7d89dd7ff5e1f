import Derived.Test.YtpanhdnglicknaaGreatW3
set_option linter.unusedVariables false
set_option linter.unusedSectionVars false
set_option linter.unusedSimpArgs false
set_option maxRecDepth 100000
set_option maxHeartbeats 8000000

namespace Go.Proofs.YtpanhdnglicknaaGreat.Pure
open Go Go.Proofs.YtpanhdnglicknaaGreat.Hw Go.Proofs.YtpanhdnglicknaaGreat

theorem shr_nat (a : UInt64) (n : Int) (k : Nat) (h : min n.toNat 64 = k) : (shWr a n).toNat = a.toNat / 2 ^ k := by
  unfold shWr
  rw [h, UInt64.toNat_ofNat', Nat.mod_eq_of_lt (Nat.lt_of_le_of_lt (Nat.div_le_self _ _) a.toNat_lt)]
theorem shl_nat (a : UInt64) (n : Int) (k : Nat) (h : min n.toNat 64 = k) : (shWl a n).toNat = a.toNat * 2 ^ k % 2 ^ 64 := by
  unfold shWl
  rw [h, UInt64.toNat_ofNat']
theorem c32 : (4294967296 : UInt64).toNat = 4294967296 := by decide
theorem shr32 (a : UInt64) : shWr a ((32 : UInt64).toNat : Int) = a / 4294967296 := by
  apply UInt64.toNat_inj.1
  rw [shr_nat a _ 32 (by decide), UInt64.toNat_div, c32]
theorem and32 (a : UInt64) : a &&& 4294967295 = a % 4294967296 := by
  apply UInt64.toNat_inj.1
  have e : (4294967295 : UInt64).toNat = 2 ^ 32 - 1 := by decide
  rw [UInt64.toNat_and, UInt64.toNat_mod, c32, e, Nat.and_two_pow_sub_one_eq_mod]

def mHigh (a0 a1 : UInt64) : UInt64 := (((a0 / 4294967296) * (a1 / 4294967296)) + ((((a0 / 4294967296) * (a1 % 4294967296)) + (((a0 % 4294967296) * (a1 % 4294967296)) / 4294967296)) / 4294967296)) + ((((a0 % 4294967296) * (a1 / 4294967296)) + ((((a0 / 4294967296) * (a1 % 4294967296)) + (((a0 % 4294967296) * (a1 % 4294967296)) / 4294967296)) % 4294967296)) / 4294967296)
theorem high_same (a b : UInt64) : (bits_Mul64 a b).1 = mHigh a b := by
  unfold bits_Mul64 mHigh
  simp only [shr32, and32]
  rw [UInt64.add_comm (_ % 4294967296) (_ * _)]
theorem high_lt (a b : UInt64) (hb : 0 < b.toNat) : (mHigh a b).toNat < b.toNat := by
  have key : ∀ x1 x0 y1 y0 : Nat, x1 < 4294967296 → x0 < 4294967296 → y1 < 4294967296 → y0 < 4294967296 → 0 < y1 * 4294967296 + y0 →
      x1 * y0 + x0 * y0 / 4294967296 < 18446744073709551616 ∧ x0 * y1 + (x1 * y0 + x0 * y0 / 4294967296) % 4294967296 < 18446744073709551616 ∧
      x1 * y1 + (x1 * y0 + x0 * y0 / 4294967296) / 4294967296 + (x0 * y1 + (x1 * y0 + x0 * y0 / 4294967296) % 4294967296) / 4294967296 < y1 * 4294967296 + y0 := by
    intro x1 x0 y1 y0 h1 h2 h3 h4 hpos
    have m1 : x1 * y0 ≤ 4294967295 * 4294967295 := Nat.mul_le_mul (by omega) (by omega)
    have m2 : x0 * y0 ≤ 4294967295 * 4294967295 := Nat.mul_le_mul (by omega) (by omega)
    have m3 : x0 * y1 ≤ 4294967295 * 4294967295 := Nat.mul_le_mul (by omega) (by omega)
    refine ⟨by omega, by omega, ?_⟩
    -- the product, taken apart
    have hxy : (x1 * 4294967296 + x0 + 1) * (y1 * 4294967296 + y0) ≤ 18446744073709551616 * (y1 * 4294967296 + y0) := Nat.mul_le_mul_right _ (by omega)
    have hex : (x1 * 4294967296 + x0 + 1) * (y1 * 4294967296 + y0) = (x1 * y1) * 18446744073709551616 + (x1 * y0) * 4294967296 + (x0 * y1) * 4294967296 + x0 * y0 + (y1 * 4294967296 + y0) := by
      rw [Nat.add_mul, Nat.add_mul, Nat.one_mul, Nat.mul_add, Nat.mul_add]
      have e1 : x1 * 4294967296 * (y1 * 4294967296) = x1 * y1 * 18446744073709551616 := by
        rw [Nat.mul_assoc, Nat.mul_left_comm 4294967296 y1, ← Nat.mul_assoc]
      have e2 : x1 * 4294967296 * y0 = x1 * y0 * 4294967296 := by rw [Nat.mul_assoc, Nat.mul_comm 4294967296, ← Nat.mul_assoc]
      have e3 : x0 * (y1 * 4294967296) = x0 * y1 * 4294967296 := by rw [Nat.mul_assoc]
      rw [e1, e2, e3]
      omega
    rw [hex] at hxy
    generalize x1 * y1 = p11 at *
    generalize x1 * y0 = p10 at *
    generalize x0 * y1 = p01 at *
    generalize x0 * y0 = p00 at *
    omega
  have ha := a.toNat_lt
  have hb2 := b.toNat_lt
  obtain ⟨k1, k2, k3⟩ := key (a.toNat / 4294967296) (a.toNat % 4294967296) (b.toNat / 4294967296) (b.toNat % 4294967296) (by omega) (by omega) (by omega) (by omega) (by omega)
  unfold mHigh
  have m11 : a.toNat / 4294967296 * (b.toNat / 4294967296) ≤ 4294967295 * 4294967295 := Nat.mul_le_mul (by omega) (by omega)
  have m10 : a.toNat / 4294967296 * (b.toNat % 4294967296) ≤ 4294967295 * 4294967295 := Nat.mul_le_mul (by omega) (by omega)
  have m01 : a.toNat % 4294967296 * (b.toNat / 4294967296) ≤ 4294967295 * 4294967295 := Nat.mul_le_mul (by omega) (by omega)
  have m00 : a.toNat % 4294967296 * (b.toNat % 4294967296) ≤ 4294967295 * 4294967295 := Nat.mul_le_mul (by omega) (by omega)
  simp only [UInt64.toNat_add, UInt64.toNat_mul, UInt64.toNat_div, UInt64.toNat_mod, c32]
  generalize a.toNat / 4294967296 * (b.toNat / 4294967296) = p11 at *
  generalize a.toNat / 4294967296 * (b.toNat % 4294967296) = p10 at *
  generalize a.toNat % 4294967296 * (b.toNat / 4294967296) = p01 at *
  generalize a.toNat % 4294967296 * (b.toNat % 4294967296) = p00 at *
  omega
theorem lt_eq {α β : Type} (x : α) (f : α → β) : lt x f = f x := rfl
theorem i64_u (q : UInt64) (size : Nat) (h : q.toNat < size) (h2 : size ≤ 100000) : i64 ((q.toNat : Nat) : Int) = ((q.toNat : Nat) : Int) := by
  generalize q.toNat = k at h ⊢
  exact i64_id (by omega) (by omega)
theorem of_loop (s : Str) (hs : s.length ≤ 100000) : ∀ (n : Nat) (h : UInt64) (i : Nat), i ≤ s.length → n = s.length - i + 1 → ∃ q, mix_Of_l0 s n h (i : Int) = some q := by
  intro n
  induction n with
  | zero => intro h i _ h2; omega
  | succ n ih =>
    intro h i hi hn
    unfold mix_Of_l0
    by_cases hl : i < s.length
    · have e : decide ((i : Int) < (s.length : Int)) = true := by simp; omega
      have hg : gi s (i : Int) = some s[i] := by
        unfold gi
        rw [if_pos (by omega)]
        exact List.getElem?_eq_getElem hl
      have ei : i64 ((i : Int) + 1) = ((i + 1 : Nat) : Int) := by rw [i64_id] <;> omega
      rw [if_pos e, hg, Option.bind_some, ei]
      exact ih _ (i + 1) (by omega) (by omega)
    · have e : ¬ decide ((i : Int) < (s.length : Int)) = true := by simp; omega
      rw [if_neg e]
      exact ⟨h, rfl⟩
theorem of_ex (seed : UInt64) (s : Str) (hs : s.length ≤ 100000) : ∃ q, mix_Of seed s = some q := by
  obtain ⟨q, h1⟩ := of_loop s hs (((s.length : Int) - 0).toNat + 1) (14695981039346656037 ^^^ (mix_Mix seed)) 0 (by omega) (by omega)
  have h1' : mix_Of_l0 s (((s.length : Int) - 0).toNat + 1) (14695981039346656037 ^^^ (mix_Mix seed)) 0 = some q := h1
  refine ⟨mix_Mix (q ^^^ (toW (s.length : Int))), ?_⟩
  unfold mix_Of
  rw [if_pos (by simp [maxLen]; omega), h1', Option.bind_some]
theorem place_ex (h : UInt64) (row : Int) (size : Nat) (h1 : 1 ≤ size) (h2 : size ≤ 100000) : ∃ p : Nat, mix_Place h row (size : Int) = (p : Int) ∧ p < size := by
  have hw : (toW (size : Int)).toNat = size := by
    unfold toW
    rw [UInt64.toNat_ofNat']
    omega
  have hlt := high_lt (mix_Mix (h + ((toW row) * 11400714819323198485))) (toW (size : Int)) (by omega)
  rw [hw] at hlt
  have e : ¬ decide ((size : Int) < 1) = true := by simp; omega
  refine ⟨(mHigh (mix_Mix (h + ((toW row) * 11400714819323198485))) (toW (size : Int))).toNat, ?_, hlt⟩
  unfold mix_Place
  rw [if_neg e]
  rw [lt_eq, high_same]
  generalize (mHigh (mix_Mix (h + ((toW row) * 11400714819323198485))) (toW (size : Int))) = q at hlt ⊢
  exact i64_u q size hlt h2

/-! the sketch: the code's and the document's, step by step -/

abbrev SK (w : Nat) (seed : UInt64) (a b c e : List UInt8) (d : List Bool) (n : Nat) : sketch_Sketch := ⟨(w : Int), seed, [a, b, c, e], d, (n : Int)⟩
theorem gN {α : Type} {l : List α} {p : Nat} (h : p < l.length) : gi l (p : Int) = some l[p] := by
  unfold gi
  rw [if_pos (by omega)]
  exact List.getElem?_eq_getElem h
theorem lsN {α : Type} (l : List α) (p : Nat) (x : α) : ls l (p : Int) x = l.set p x := by
  unfold ls; rfl
theorem g0 {α : Type} (a b c d : α) : gi [a, b, c, d] 0 = some a := rfl
theorem g1 {α : Type} (a b c d : α) : gi [a, b, c, d] 1 = some b := rfl
theorem g2 {α : Type} (a b c d : α) : gi [a, b, c, d] 2 = some c := rfl
theorem g3 {α : Type} (a b c d : α) : gi [a, b, c, d] 3 = some d := rfl
theorem s0 {α : Type} (a b c d x : α) : ls [a, b, c, d] 0 x = [x, b, c, d] := rfl
theorem s1 {α : Type} (a b c d x : α) : ls [a, b, c, d] 1 x = [a, x, c, d] := rfl
theorem s2 {α : Type} (a b c d x : α) : ls [a, b, c, d] 2 x = [a, b, x, d] := rfl
theorem s3 {α : Type} (a b c d x : α) : ls [a, b, c, d] 3 x = [a, b, c, x] := rfl
theorem j0 : i64 (0 + 1) = 1 := by decide
theorem j1 : i64 (1 + 1) = 2 := by decide
theorem j2 : i64 (2 + 1) = 3 := by decide
theorem j3 : i64 (3 + 1) = 4 := by decide

structure At (w : Nat) (seed : UInt64) (key : Str) (i : Int) (p : Nat) : Prop where
  lt : p < w
  c : ∀ rows d n, sketch_Sketch_place ⟨(w : Int), seed, rows, d, n⟩ key i = some (p : Int)
theorem at_ex (w : Nat) (seed : UInt64) (key : Str) (i : Int) (hw : 1 ≤ w) (hw2 : w ≤ 4096) (hk : key.length ≤ 100000) : ∃ p, At w seed key i p := by
  obtain ⟨q, h1⟩ := of_ex seed key hk
  obtain ⟨p, h3, h5⟩ := place_ex q i w hw (by omega)
  refine ⟨p, h5, fun rows d n => ?_⟩
  unfold sketch_Sketch_place
  dsimp only
  rw [h1, Option.bind_some, h3]
def mn (x n : UInt8) : UInt8 := if x < n then x else n
section
variable {w : Nat} {seed : UInt64} {key : Str} {a b c e : List UInt8} {d : List Bool} {n p0 p1 p2 p3 p4 : Nat}
variable (ha : a.length = w) (hb : b.length = w) (hc : c.length = w) (he : e.length = w) (hd : d.length = w)
variable (k0 : At w seed key 0 p0) (k1 : At w seed key 1 p1) (k2 : At w seed key 2 p2) (k3 : At w seed key 3 p3) (k4 : At w seed key 4 p4)
include ha hb hc he k0 k1 k2 k3

theorem least_c : sketch_Sketch_least (SK w seed a b c e d n) key = some (mn (e[p3]'(he ▸ k3.lt)) (mn (c[p2]'(hc ▸ k2.lt)) (mn (b[p1]'(hb ▸ k1.lt)) (mn (a[p0]'(ha ▸ k0.lt)) 15)))) := by
  have l0 : p0 < a.length := ha ▸ k0.lt
  have l1 : p1 < b.length := hb ▸ k1.lt
  have l2 : p2 < c.length := hc ▸ k2.lt
  have l3 : p3 < e.length := he ▸ k3.lt
  unfold sketch_Sketch_least
  unfold sketch_Sketch_least_l0
  rw [if_pos (by decide), k0.c]; dsimp only; rw [g0]; dsimp only [Option.bind_some]; rw [gN l0, j0]; dsimp only [Option.bind_some]
  unfold sketch_Sketch_least_l0
  rw [if_pos (by decide), k1.c]; dsimp only; rw [g1]; dsimp only [Option.bind_some]; rw [gN l1, j1]; dsimp only [Option.bind_some]
  unfold sketch_Sketch_least_l0
  rw [if_pos (by decide), k2.c]; dsimp only; rw [g2]; dsimp only [Option.bind_some]; rw [gN l2, j2]; dsimp only [Option.bind_some]
  unfold sketch_Sketch_least_l0
  rw [if_pos (by decide), k3.c]; dsimp only; rw [g3]; dsimp only [Option.bind_some]; rw [gN l3, j3]; dsimp only [Option.bind_some]
  unfold sketch_Sketch_least_l0
  rw [if_neg (by decide)]
  rfl
def up (r : List UInt8) (p : Nat) (m : UInt8) : List UInt8 := if r.getD p 0 = m ∧ m < 15 then r.set p (m + 1) else r
omit ha hb hc he k0 k1 k2 k3 in
theorem up_len (r : List UInt8) (p : Nat) (m : UInt8) : (up r p m).length = r.length := by unfold up; split <;> simp
end

theorem mks_ok {α : Type} (bytes w : Nat) (z : α) (hb : bytes ≤ 24) (hw : w ≤ 4096) : mks bytes (w : Int) z = some (List.replicate w z) := by
  unfold mks
  have : bytes * w ≤ 24 * 4096 := Nat.mul_le_mul hb hw
  rw [if_pos ⟨by omega, by rw [← Int.natCast_mul]; omega, by omega⟩]
  rfl
theorem apd_ok {α : Type} (bytes : Nat) (l r : List α) (hb : bytes ≤ 24) (hl : l.length + r.length ≤ 1000000) : apd bytes l r = some (l ++ r) := by
  unfold apd
  have : (l.length + r.length) * bytes ≤ 1000000 * 24 := Nat.mul_le_mul hl hb
  rw [if_pos (by omega)]
theorem cpy_ok {α : Type} (l r : List α) (h : l.length = r.length) (h0 : 0 < r.length) : cpy l r = some r := by
  unfold cpy
  rw [if_pos ⟨by omega, h0⟩, h, List.take_length, List.drop_of_length_le (by omega), List.append_nil]

/-! new -/
theorem new_c (w : Nat) (seed : UInt64) (h1 : 1 ≤ w) (h2 : w ≤ 4096) :
    sketch_New (w : Int) seed = some (some (SK w seed (List.replicate w 0) (List.replicate w 0) (List.replicate w 0) (List.replicate w 0) (List.replicate w false) 0), 0) := by
  unfold sketch_New
  rw [if_neg (by simp; omega), mks_ok 1 w _ (by decide) h2, Option.bind_some]
  unfold sketch_New_l0
  rw [if_pos (by decide), mks_ok 1 w _ (by decide) h2, Option.bind_some, g0, Option.bind_some, s0, j0]
  unfold sketch_New_l0
  rw [if_pos (by decide), mks_ok 1 w _ (by decide) h2, Option.bind_some, g1, Option.bind_some, s1, j1]
  unfold sketch_New_l0
  rw [if_pos (by decide), mks_ok 1 w _ (by decide) h2, Option.bind_some, g2, Option.bind_some, s2, j2]
  unfold sketch_New_l0
  rw [if_pos (by decide), mks_ok 1 w _ (by decide) h2, Option.bind_some, g3, Option.bind_some, s3, j3]
  unfold sketch_New_l0
  rw [if_neg (by decide), Option.bind_some]
  rfl
theorem gi_ls {α : Type} {l : List α} {i : Int} {y z : α} (h : gi l i = some y) : gi (ls l i z) i = some z := by
  obtain ⟨⟨h0, h1⟩, h2⟩ := gi_some h
  unfold gi ls
  rw [if_pos h0]
  exact List.getElem?_set_self (by omega)
theorem ls_ls {α : Type} (l : List α) (i : Int) (y z : α) : ls (ls l i y) i z = ls l i z := by
  unfold ls; exact List.set_set ..
theorem ls_self {α : Type} {l : List α} {i : Int} {y : α} (h : gi l i = some y) : ls l i y = l := by
  obtain ⟨⟨h0, h1⟩, h2⟩ := gi_some h
  unfold ls
  have hl : i.toNat < l.length := by omega
  rw [List.getElem?_eq_getElem hl] at h2
  obtain rfl := Option.some.inj h2
  exact List.set_getElem_self hl
def hf (x : UInt8) : UInt8 := x / 2
theorem tk_set {α : Type} (l : List α) (k : Nat) (x : α) (h : k < l.length) : (l.set k x).take (k + 1) = l.take k ++ [x] := by
  rw [List.take_add_one, List.take_set_of_le (Nat.le_refl k)]
  congr 1
  rw [List.getElem?_set_self h]; rfl
theorem dr_set {α : Type} (l : List α) (k : Nat) (x : α) : (l.set k x).drop (k + 1) = l.drop (k + 1) := by
  rw [List.drop_set_of_lt (by omega)]
theorem age_in_c (s : Int) (z : List UInt8) (w : Nat) (hz : z.length = w) (hw : w ≤ 4096) : ∀ (f k : Nat) (c : List (List UInt8)) (y : List UInt8), f = w - k + 1 → k ≤ w → gi c s = some y → y.length = w →
    sketch_Sketch_Age_l1 s z f (k : Int) c = some (ls c s (y.take k ++ (y.drop k).map hf)) := by
  intro f
  induction f with
  | zero => intro k c y h; omega
  | succ f ih =>
    intro k c y h hk hg hy
    unfold sketch_Sketch_Age_l1
    by_cases h1 : k < w
    · have e : decide ((k : Int) < (z.length : Int)) = true := by simp; omega
      have ei : i64 ((k : Int) + 1) = ((k + 1 : Nat) : Int) := by rw [i64_id] <;> omega
      have hl : k < y.length := by omega
      rw [if_pos e, hg, Option.bind_some, gN hl, Option.bind_some, ei, lsN y]
      rw [ih (k + 1) _ (y.set k (y[k] / 2)) (by omega) (by omega) (gi_ls hg) (by rw [List.length_set]; exact hy), ls_ls, tk_set _ _ _ hl, dr_set, List.append_assoc]
      rw [List.drop_eq_getElem_cons hl, List.map_cons]
      rfl
    · obtain rfl : k = w := by omega
      have e : ¬ decide ((k : Int) < (z.length : Int)) = true := by simp; omega
      rw [if_neg e, List.drop_of_length_le (by omega), List.map_nil, List.append_nil, List.take_of_length_le (by omega), ls_self hg]
section
variable {w : Nat} {seed : UInt64} {a b c e : List UInt8} {d : List Bool} {n : Nat}
variable (ha : a.length = w) (hb : b.length = w) (hc : c.length = w) (he : e.length = w) (hd : d.length = w) (h1 : 1 ≤ w) (h2 : w ≤ 4096) (hn : n ≤ 1000000)
include ha hb hc he hd h1 h2 hn
omit ha hb hc he hd h1 h2 in
theorem half_n : i64 (((n : Nat) : Int).tdiv 2) = ((n / 2 : Nat) : Int) := by
  rw [Int.tdiv_eq_ediv_of_nonneg (by omega), i64_id (by omega) (by omega)]
  omega
theorem age_c : sketch_Sketch_Age (SK w seed a b c e d n) = some (SK w seed (a.map hf) (b.map hf) (c.map hf) (e.map hf) (List.replicate w false) (n / 2)) := by
  have I := fun (s : Int) (z : List UInt8) (hz : z.length = w) (r : List (List UInt8)) (hg : gi r s = some z) => age_in_c s z w hz h2 (((z.length : Int) - 0).toNat + 1) 0 r z (by omega) (by omega) hg hz
  simp only [List.take_zero, List.drop_zero, List.nil_append] at I
  unfold sketch_Sketch_Age
  dsimp only
  unfold sketch_Sketch_Age_l0
  rw [if_pos (by decide), g0, Option.bind_some, show sketch_Sketch_Age_l1 0 a (((a.length : Int) - 0).toNat + 1) 0 [a, b, c, e] = _ from I 0 a ha _ (g0 ..), Option.bind_some, Option.bind_some, s0, j0]
  unfold sketch_Sketch_Age_l0
  rw [if_pos (by decide), g1, Option.bind_some, show sketch_Sketch_Age_l1 1 b (((b.length : Int) - 0).toNat + 1) 0 _ = _ from I 1 b hb _ (g1 ..), Option.bind_some, Option.bind_some, s1, j1]
  unfold sketch_Sketch_Age_l0
  rw [if_pos (by decide), g2, Option.bind_some, show sketch_Sketch_Age_l1 2 c (((c.length : Int) - 0).toNat + 1) 0 _ = _ from I 2 c hc _ (g2 ..), Option.bind_some, Option.bind_some, s2, j2]
  unfold sketch_Sketch_Age_l0
  rw [if_pos (by decide), g3, Option.bind_some, show sketch_Sketch_Age_l1 3 e (((e.length : Int) - 0).toNat + 1) 0 _ = _ from I 3 e he _ (g3 ..), Option.bind_some, Option.bind_some, s3, j3]
  unfold sketch_Sketch_Age_l0
  rw [if_neg (by decide), Option.bind_some, half_n hn, hd]
end

/-! the sketch as a whole -/
structure Sk where
  a : List UInt8
  b : List UInt8
  c : List UInt8
  e : List UInt8
  d : List Bool
  n : Nat
namespace Sk
abbrev C (s : Sk) (w : Nat) (seed : UInt64) : sketch_Sketch := SK w seed s.a s.b s.c s.e s.d s.n
structure ok (s : Sk) (w : Nat) : Prop where
  ha : s.a.length = w
  hb : s.b.length = w
  hc : s.c.length = w
  he : s.e.length = w
  hd : s.d.length = w
  hn : s.n < 10 * w
  xa : ∀ x ∈ s.a, x ≤ 15
  xb : ∀ x ∈ s.b, x ≤ 15
  xc : ∀ x ∈ s.c, x ≤ 15
  xe : ∀ x ∈ s.e, x ≤ 15
end Sk
structure Ps where
  p0 : Nat
  p1 : Nat
  p2 : Nat
  p3 : Nat
  p4 : Nat
structure Pk (w : Nat) (seed : UInt64) (key : Str) (p : Ps) : Prop where
  k0 : At w seed key 0 p.p0
  k1 : At w seed key 1 p.p1
  k2 : At w seed key 2 p.p2
  k3 : At w seed key 3 p.p3
  k4 : At w seed key 4 p.p4
theorem pk_ex (w : Nat) (seed : UInt64) (key : Str) (hw : 1 ≤ w) (hw2 : w ≤ 4096) (hk : key.length ≤ 100000) : ∃ p, Pk w seed key p := by
  obtain ⟨p0, h0⟩ := at_ex w seed key 0 hw hw2 hk
  obtain ⟨p1, h1⟩ := at_ex w seed key 1 hw hw2 hk
  obtain ⟨p2, h2⟩ := at_ex w seed key 2 hw hw2 hk
  obtain ⟨p3, h3⟩ := at_ex w seed key 3 hw hw2 hk
  obtain ⟨p4, h4⟩ := at_ex w seed key 4 hw hw2 hk
  exact ⟨⟨p0, p1, p2, p3, p4⟩, ⟨h0, h1, h2, h3, h4⟩⟩
namespace Sk
def least (s : Sk) (p : Ps) : UInt8 := mn (s.e.getD p.p3 0) (mn (s.c.getD p.p2 0) (mn (s.b.getD p.p1 0) (mn (s.a.getD p.p0 0) 15)))
def seen (s : Sk) (p : Ps) : Nat := if s.d.getD p.p4 false then (s.least p).toNat + 1 else (s.least p).toNat
def add (s : Sk) (p : Ps) : Sk :=
  if s.d.getD p.p4 false then ⟨up s.a p.p0 (s.least p), up s.b p.p1 (s.least p), up s.c p.p2 (s.least p), up s.e p.p3 (s.least p), s.d, s.n + 1⟩
  else ⟨s.a, s.b, s.c, s.e, s.d.set p.p4 true, s.n + 1⟩
def age (s : Sk) (w : Nat) : Sk := ⟨s.a.map hf, s.b.map hf, s.c.map hf, s.e.map hf, List.replicate w false, s.n / 2⟩
def put (s : Sk) (w : Nat) (p : Ps) : Sk := if 10 * w ≤ (s.add p).n then (s.add p).age w else s.add p
end Sk
theorem i_succ (k : Nat) (h : k < 256) : i64 ((k : Int) + 1) = ((k + 1 : Nat) : Int) := by
  rw [i64_id (by omega) (by omega)]; rfl
theorem getD_e {α : Type} {l : List α} {p : Nat} {z : α} (h : p < l.length) : l.getD p z = l[p] := by
  rw [List.getD_eq_getElem?_getD, List.getElem?_eq_getElem h]; rfl

theorem up_c {c : List (List UInt8)} {s : Int} {l : List UInt8} {p : Nat} (m : UInt8) (hg : gi c s = some l) (hp : p < l.length) :
    (if ((l[p] == m) && decide (m < 15)) then some (ls c s (ls l (p : Int) (l[p] + 1))) else some c) = some (ls c s (up l p m)) := by
  unfold up
  rw [getD_e hp, lsN]
  by_cases h : l[p] = m ∧ m < 15
  · rw [if_pos h, if_pos (by simp [h.1, h.2]), h.1]
  · rw [if_neg h, if_neg (by simpa using h), ls_self hg]
section
variable {w : Nat} {seed : UInt64} {key : Str} {s : Sk} {p : Ps} (h1 : 1 ≤ w) (h2 : w ≤ 4096) (hs : s.ok w) (hp : Pk w seed key p)
include h1 h2 hs hp
theorem Least_c : sketch_Sketch_least (s.C w seed) key = some (s.least p) := by
  rw [least_c hs.ha hs.hb hs.hc hs.he hp.k0 hp.k1 hp.k2 hp.k3]
  unfold Sk.least
  rw [getD_e (hs.he ▸ hp.k3.lt), getD_e (hs.hc ▸ hp.k2.lt), getD_e (hs.hb ▸ hp.k1.lt), getD_e (hs.ha ▸ hp.k0.lt)]
theorem Seen_c : sketch_Sketch_Seen (s.C w seed) key = some ((s.seen p : Nat) : Int) := by
  have l4 : p.p4 < s.d.length := hs.hd ▸ hp.k4.lt
  unfold sketch_Sketch_Seen Sk.seen
  rw [Least_c h1 h2 hs hp, Option.bind_some, hp.k4.c, Option.bind_some]
  dsimp only
  rw [gN l4, Option.bind_some, getD_e l4]
  have : (s.least p).toNat < 256 := (s.least p).toNat_lt
  by_cases h : s.d[p.p4] = true
  · rw [if_pos h, if_pos h, i_succ _ this]
  · rw [if_neg h, if_neg h]
theorem rows_c (m : UInt8) : sketch_Sketch_Add_l0 (s.C w seed) key m 5 0 [s.a, s.b, s.c, s.e] = some [up s.a p.p0 m, up s.b p.p1 m, up s.c p.p2 m, up s.e p.p3 m] := by
  have l0 : p.p0 < s.a.length := hs.ha ▸ hp.k0.lt
  have l1 : p.p1 < s.b.length := hs.hb ▸ hp.k1.lt
  have l2 : p.p2 < s.c.length := hs.hc ▸ hp.k2.lt
  have l3 : p.p3 < s.e.length := hs.he ▸ hp.k3.lt
  unfold sketch_Sketch_Add_l0
  rw [if_pos (by decide), hp.k0.c, Option.bind_some, g0, Option.bind_some, gN l0, Option.bind_some, up_c m (g0 ..) l0, Option.bind_some, s0, j0]
  unfold sketch_Sketch_Add_l0
  rw [if_pos (by decide), hp.k1.c, Option.bind_some, g1, Option.bind_some, gN l1, Option.bind_some, up_c m (g1 ..) l1, Option.bind_some, s1, j1]
  unfold sketch_Sketch_Add_l0
  rw [if_pos (by decide), hp.k2.c, Option.bind_some, g2, Option.bind_some, gN l2, Option.bind_some, up_c m (g2 ..) l2, Option.bind_some, s2, j2]
  unfold sketch_Sketch_Add_l0
  rw [if_pos (by decide), hp.k3.c, Option.bind_some, g3, Option.bind_some, gN l3, Option.bind_some, up_c m (g3 ..) l3, Option.bind_some, s3, j3]
  unfold sketch_Sketch_Add_l0
  rw [if_neg (by decide)]
omit hp in
omit hp in
theorem Age_c : sketch_Sketch_Age (s.C w seed) = some ((s.age w).C w seed) := by
  have := hs.hn
  exact age_c hs.ha hs.hb hs.hc hs.he hs.hd h1 h2 (by omega)
omit hp in
omit h1 h2 hp in
theorem add_lens : (s.add p).a.length = w ∧ (s.add p).b.length = w ∧ (s.add p).c.length = w ∧ (s.add p).e.length = w ∧ (s.add p).d.length = w ∧ (s.add p).n = s.n + 1 := by
  unfold Sk.add
  split
  · simp only [up_len]; exact ⟨hs.ha, hs.hb, hs.hc, hs.he, hs.hd, trivial⟩
  · simp only [List.length_set]; exact ⟨hs.ha, hs.hb, hs.hc, hs.he, hs.hd, trivial⟩
omit hs hp in
theorem fin_c (S : Sk) (n : Nat) (la : S.a.length = w) (lb : S.b.length = w) (lc : S.c.length = w) (le : S.e.length = w) (ld : S.d.length = w) (ln : S.n = n + 1) (hn : n < 10 * w) :
    (if decide ((i64 (10 * ((w : Nat) : Int))) ≤ (i64 (((n : Nat) : Int) + 1))) then (sketch_Sketch_Age (⟨(w : Int), seed, [S.a, S.b, S.c, S.e], S.d, i64 (((n : Nat) : Int) + 1)⟩ : sketch_Sketch)).bind fun r12 => some r12 else some (⟨(w : Int), seed, [S.a, S.b, S.c, S.e], S.d, i64 (((n : Nat) : Int) + 1)⟩ : sketch_Sketch)) = some ((if 10 * w ≤ S.n then S.age w else S).C w seed) := by
  have en : i64 (((n : Nat) : Int) + 1) = ((S.n : Nat) : Int) := by rw [i64_id (by omega) (by omega)]; omega
  have ew : i64 (10 * ((w : Nat) : Int)) = 10 * ((w : Nat) : Int) := i64_id (by omega) (by omega)
  rw [en, ew]
  have ag := age_c (seed := seed) (n := S.n) la lb lc le ld h1 h2 (by omega)
  by_cases h : 10 * w ≤ S.n
  · rw [if_pos (by rw [decide_eq_true_eq]; omega), if_pos h, ag, Option.bind_some]
    rfl
  · rw [if_neg (by rw [decide_eq_true_eq]; omega), if_neg h]
theorem Add_c : sketch_Sketch_Add (s.C w seed) key = some ((s.put w p).C w seed) := by
  have l4 : p.p4 < s.d.length := hs.hd ▸ hp.k4.lt
  have hn := hs.hn
  obtain ⟨la, lb, lc, le, ld, ln⟩ := add_lens hs (p := p)
  unfold sketch_Sketch_Add
  rw [hp.k4.c, Option.bind_some]
  dsimp only
  rw [gN l4, Option.bind_some]
  have key2 : (if (!s.d[p.p4]) = true then some (ls s.d (p.p4 : Int) true, [s.a, s.b, s.c, s.e]) else (sketch_Sketch_least (s.C w seed) key).bind fun r16 => Option.bind (sketch_Sketch_Add_l0 (s.C w seed) key r16 5 0 [s.a, s.b, s.c, s.e]) fun p18 => some (s.d, p18)) = some ((s.add p).d, [(s.add p).a, (s.add p).b, (s.add p).c, (s.add p).e]) := by
    unfold Sk.add
    rw [getD_e l4]
    by_cases h : s.d[p.p4] = true
    · rw [if_neg (by simp [h]), if_pos h, Least_c h1 h2 hs hp, Option.bind_some, rows_c h1 h2 hs hp, Option.bind_some]
    · rw [if_pos (by simp [h]), if_neg h, lsN]
  rw [key2, Option.bind_some]
  exact fin_c h1 h2 (s.add p) s.n la lb lc le ld ln hn
omit hs hp in
end
end Go.Proofs.YtpanhdnglicknaaGreat.Pure
