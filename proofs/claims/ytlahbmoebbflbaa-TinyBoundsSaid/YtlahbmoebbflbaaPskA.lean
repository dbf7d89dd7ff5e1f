import Derived.Test.YtlahbmoebbflbaaW6
import Derived.Test.YtlahbmoebbflbaaPmixA
set_option linter.unusedVariables false
set_option linter.unusedSectionVars false
set_option linter.unusedSimpArgs false
set_option maxRecDepth 100000
set_option maxHeartbeats 8000000

namespace Go.Proofs.Ytlahbmoebbflbaa.Pure
open Go Go.Proofs.Ytlahbmoebbflbaa.Hw Go.Proofs.Ytlahbmoebbflbaa

/-! the sketch: the code's and the document's, step by step -/

abbrev SK (w : Nat) (seed : UInt64) (a b c e : List UInt8) (d : List Bool) (n : Nat) : sketch_Sketch := ⟨(w : Int), seed, [a, b, c, e], d, (n : Int)⟩
def N8 (r : List UInt8) : List Int := r.map fun x => (x.toNat : Int)
abbrev SM (w : Nat) (seed : UInt64) (a b c e : List UInt8) (d : List Bool) (n : Nat) : hawthornref05_Sketch := ⟨(w : Int), seed, [N8 a, N8 b, N8 c, N8 e], d, (n : Int)⟩

theorem N8_len (r : List UInt8) : (N8 r).length = r.length := by simp [N8]
theorem gN {α : Type} {l : List α} {p : Nat} (h : p < l.length) : gi l (p : Int) = some l[p] := by
  unfold gi
  rw [if_pos (by omega)]
  exact List.getElem?_eq_getElem h
theorem gN8 {l : List UInt8} {p : Nat} (h : p < l.length) : gi (N8 l) (p : Int) = some ((l[p].toNat : Nat) : Int) := by
  rw [gN (by rw [N8_len]; exact h)]
  simp [N8]
theorem lsN {α : Type} (l : List α) (p : Nat) (x : α) : ls l (p : Int) x = l.set p x := by
  unfold ls; rfl
theorem N8_set (l : List UInt8) (p : Nat) (x : UInt8) : (N8 l).set p ((x.toNat : Nat) : Int) = N8 (l.set p x) := by
  simp [N8, List.map_set]
theorem g0 {α : Type} (a b c d : α) : gi [a, b, c, d] 0 = some a := rfl
theorem g1 {α : Type} (a b c d : α) : gi [a, b, c, d] 1 = some b := rfl
theorem g2 {α : Type} (a b c d : α) : gi [a, b, c, d] 2 = some c := rfl
theorem g3 {α : Type} (a b c d : α) : gi [a, b, c, d] 3 = some d := rfl
theorem s0 {α : Type} (a b c d x : α) : ls [a, b, c, d] 0 x = [x, b, c, d] := rfl
theorem s1 {α : Type} (a b c d x : α) : ls [a, b, c, d] 1 x = [a, x, c, d] := rfl
theorem s2 {α : Type} (a b c d x : α) : ls [a, b, c, d] 2 x = [a, b, x, d] := rfl
theorem s3 {α : Type} (a b c d x : α) : ls [a, b, c, d] 3 x = [a, b, c, x] := rfl
theorem j0 : i64 (0 + 1) = 1 := by decide
theorem j1 : i64 (1 + 1) = 2 := by decide
theorem j2 : i64 (2 + 1) = 3 := by decide
theorem j3 : i64 (3 + 1) = 4 := by decide

structure At (w : Nat) (seed : UInt64) (key : Str) (i : Int) (p : Nat) : Prop where
  lt : p < w
  c : ∀ rows d n, sketch_Sketch_place ⟨(w : Int), seed, rows, d, n⟩ key i = some (p : Int)
  m : ∀ rows d n, hawthornref05_Sketch_place ⟨(w : Int), seed, rows, d, n⟩ key i = some (p : Int)
theorem at_ex (w : Nat) (seed : UInt64) (key : Str) (i : Int) (hw : 1 ≤ w) (hw2 : w ≤ 4096) (hk : key.length ≤ 100000) : ∃ p, At w seed key i p := by
  obtain ⟨q, h1, h2⟩ := of_same seed key hk
  obtain ⟨p, h3, h4, h5⟩ := place_same q i w hw (by omega)
  refine ⟨p, h5, fun rows d n => ?_, fun rows d n => ?_⟩
  · unfold sketch_Sketch_place
    dsimp only
    rw [h1, Option.bind_some, h3]
  · unfold hawthornref05_Sketch_place
    dsimp only
    rw [h2, Option.bind_some, h4, Option.bind_some]

def mn (x n : UInt8) : UInt8 := if x < n then x else n
theorem mn_i (x n : UInt8) : (if decide ((x.toNat : Int) < (n.toNat : Int)) then some (x.toNat : Int) else some (n.toNat : Int)) = some (((mn x n).toNat : Nat) : Int) := by
  unfold mn
  by_cases h : x < n
  · rw [if_pos h, if_pos (by have := UInt8.lt_iff_toNat_lt.1 h; simp; omega)]
  · rw [if_neg h, if_neg (by simp only [decide_eq_true_eq]; exact fun q => h (UInt8.lt_iff_toNat_lt.2 (by omega)))]

section
variable {w : Nat} {seed : UInt64} {key : Str} {a b c e : List UInt8} {d : List Bool} {n p0 p1 p2 p3 p4 : Nat}
variable (ha : a.length = w) (hb : b.length = w) (hc : c.length = w) (he : e.length = w) (hd : d.length = w)
variable (k0 : At w seed key 0 p0) (k1 : At w seed key 1 p1) (k2 : At w seed key 2 p2) (k3 : At w seed key 3 p3) (k4 : At w seed key 4 p4)
include ha hb hc he k0 k1 k2 k3

theorem least_c : sketch_Sketch_least (SK w seed a b c e d n) key = some (mn (e[p3]'(he ▸ k3.lt)) (mn (c[p2]'(hc ▸ k2.lt)) (mn (b[p1]'(hb ▸ k1.lt)) (mn (a[p0]'(ha ▸ k0.lt)) 15)))) := by
  have l0 : p0 < a.length := ha ▸ k0.lt
  have l1 : p1 < b.length := hb ▸ k1.lt
  have l2 : p2 < c.length := hc ▸ k2.lt
  have l3 : p3 < e.length := he ▸ k3.lt
  unfold sketch_Sketch_least
  unfold sketch_Sketch_least_l0
  rw [if_pos (by decide), k0.c]; dsimp only; rw [g0]; dsimp only [Option.bind_some]; rw [gN l0, j0]; dsimp only [Option.bind_some]
  unfold sketch_Sketch_least_l0
  rw [if_pos (by decide), k1.c]; dsimp only; rw [g1]; dsimp only [Option.bind_some]; rw [gN l1, j1]; dsimp only [Option.bind_some]
  unfold sketch_Sketch_least_l0
  rw [if_pos (by decide), k2.c]; dsimp only; rw [g2]; dsimp only [Option.bind_some]; rw [gN l2, j2]; dsimp only [Option.bind_some]
  unfold sketch_Sketch_least_l0
  rw [if_pos (by decide), k3.c]; dsimp only; rw [g3]; dsimp only [Option.bind_some]; rw [gN l3, j3]; dsimp only [Option.bind_some]
  unfold sketch_Sketch_least_l0
  rw [if_neg (by decide)]
  rfl
theorem least_m : hawthornref05_Sketch_least (SM w seed a b c e d n) key = some (((mn (e[p3]'(he ▸ k3.lt)) (mn (c[p2]'(hc ▸ k2.lt)) (mn (b[p1]'(hb ▸ k1.lt)) (mn (a[p0]'(ha ▸ k0.lt)) 15)))).toNat : Nat) : Int) := by
  have l0 : p0 < a.length := ha ▸ k0.lt
  have l1 : p1 < b.length := hb ▸ k1.lt
  have l2 : p2 < c.length := hc ▸ k2.lt
  have l3 : p3 < e.length := he ▸ k3.lt
  have e15 : (15 : Int) = (((15 : UInt8).toNat : Nat) : Int) := by decide
  unfold hawthornref05_Sketch_least
  rw [show hawthornref05_Sketch_least_l0 (SM w seed a b c e d n) key 5 15 0 = hawthornref05_Sketch_least_l0 (SM w seed a b c e d n) key 5 (((15 : UInt8).toNat : Nat) : Int) 0 from rfl]
  unfold hawthornref05_Sketch_least_l0
  rw [if_pos (by decide), k0.m]; dsimp only; rw [g0]; dsimp only [Option.bind_some]; rw [gN8 l0, j0]; dsimp only [Option.bind_some]; rw [mn_i]; dsimp only [Option.bind_some]
  unfold hawthornref05_Sketch_least_l0
  rw [if_pos (by decide), k1.m]; dsimp only; rw [g1]; dsimp only [Option.bind_some]; rw [gN8 l1, j1]; dsimp only [Option.bind_some]; rw [mn_i]; dsimp only [Option.bind_some]
  unfold hawthornref05_Sketch_least_l0
  rw [if_pos (by decide), k2.m]; dsimp only; rw [g2]; dsimp only [Option.bind_some]; rw [gN8 l2, j2]; dsimp only [Option.bind_some]; rw [mn_i]; dsimp only [Option.bind_some]
  unfold hawthornref05_Sketch_least_l0
  rw [if_pos (by decide), k3.m]; dsimp only; rw [g3]; dsimp only [Option.bind_some]; rw [gN8 l3, j3]; dsimp only [Option.bind_some]; rw [mn_i]; dsimp only [Option.bind_some]
  unfold hawthornref05_Sketch_least_l0
  rw [if_neg (by decide)]
  rfl

def up (r : List UInt8) (p : Nat) (m : UInt8) : List UInt8 := if r.getD p 0 = m ∧ m < 15 then r.set p (m + 1) else r
omit ha hb hc he k0 k1 k2 k3 in
theorem up_len (r : List UInt8) (p : Nat) (m : UInt8) : (up r p m).length = r.length := by unfold up; split <;> simp
end
end Go.Proofs.Ytlahbmoebbflbaa.Pure
