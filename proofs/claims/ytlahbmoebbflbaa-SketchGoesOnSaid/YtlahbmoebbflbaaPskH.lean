import Derived.Test.YtlahbmoebbflbaaW4
import Derived.Test.YtlahbmoebbflbaaPmixA
import Derived.Test.YtlahbmoebbflbaaPskA
import Derived.Test.YtlahbmoebbflbaaPskB
import Derived.Test.YtlahbmoebbflbaaPskC
import Derived.Test.YtlahbmoebbflbaaPskF
import Derived.Test.YtlahbmoebbflbaaPskN
import Derived.Test.YtlahbmoebbflbaaPskD
import Derived.Test.YtlahbmoebbflbaaPwireC
import Derived.Test.YtlahbmoebbflbaaPskE
import Derived.Test.YtlahbmoebbflbaaPskG
import Derived.Test.YtlahbmoebbflbaaPwireR
set_option linter.unusedVariables false
set_option linter.unusedSectionVars false
set_option linter.unusedSimpArgs false
set_option maxRecDepth 100000
set_option maxHeartbeats 8000000

namespace Go.Proofs.Ytlahbmoebbflbaa.Pure
open Go Go.Proofs.Ytlahbmoebbflbaa.Hw Go.Proofs.Ytlahbmoebbflbaa

/-! a sketch that was written is read as it was -/
theorem le15_loop (ra : Str × wire_Reader) (y : List UInt8) (hy : ∀ x ∈ y, x ≤ 15) (hl : y.length ≤ 4096) : ∀ (f k : Nat), f = y.length - k + 1 → k ≤ y.length → sketch_Take_l27 ra y f (k : Int) = some (.inl ()) := by
  intro f
  induction f with
  | zero => intro k h; omega
  | succ f ih =>
    intro k hf hk
    unfold sketch_Take_l27
    by_cases h : k < y.length
    · have ei : i64 ((k : Int) + 1) = ((k + 1 : Nat) : Int) := by rw [i64_id] <;> omega
      rw [if_pos (by rw [decide_eq_true_eq]; omega), gN h, Option.bind_some, decide_eq_true (hy _ (List.getElem_mem h)), must_t, ei]
      exact ih (k + 1) (by omega) (by omega)
    · rw [if_neg (by rw [decide_eq_true_eq]; omega)]
theorem take_row (ra2 : UInt64 × wire_Reader) (w : Nat) (hw : i64 (ra2.1.toNat : Int) = (w : Int)) (hw2 : w ≤ 4096) (k : Nat) (s : Int) (hs : s < 4) (c : List (List UInt8)) (y r : List UInt8) (rest : Str) (hg : gi c s = some y)
    (hr : r.length = w) (hx : ∀ x ∈ r, x ≤ 15) : sketch_Take_l23 ra2 (k + 1) s c (r ++ rest) = sketch_Take_l23 ra2 k (i64 (s + 1)) (ls c s r) rest := by
  have L : sketch_Take_l27 (r, ⟨rest⟩) r (((r.length : Int) - 0).toNat + 1) 0 = some (.inl ()) := le15_loop _ r hx (by omega) _ 0 (by omega) (by omega)
  conv => lhs; unfold sketch_Take_l23
  rw [if_pos (by rw [decide_eq_true_eq]; exact hs), bytes_back r rest _ (by rw [hw, hr]), Option.bind_some]
  dsimp only [sm]
  rw [if_pos (by simp [maxLen]; omega), hg, Option.bind_some, gi_ls hg, Option.bind_some, L, Option.bind_some]
  dsimp only
  rw [Option.bind_some]
theorem take_door (x : sketch_Sketch) (d : List Bool) (w : Nat) (hx : x.door.length = w) (hd : d.length = w) (hw2 : w ≤ 4096) (rest : Str) : ∀ (f k : Nat) (z : List Bool), f = w - k + 1 → k ≤ w → z.length = w →
    sketch_Take_l14 x f (k : Int) (bits (d.drop k) ++ rest) z = some (.inl (rest, z.take k ++ d.drop k)) := by
  intro f
  induction f with
  | zero => intro k z h; omega
  | succ f ih =>
    intro k z hf hk hz
    unfold sketch_Take_l14
    rw [hx]
    by_cases h : k < w
    · have hkd : k < d.length := by omega
      have hkz : k < z.length := by omega
      have ei : i64 ((k : Int) + 1) = ((k + 1 : Nat) : Int) := by rw [i64_id] <;> omega
      have eb : bits (d.drop k) ++ rest = (if d[k] then 1 else 0) :: (bits (d.drop (k + 1)) ++ rest) := by rw [bits_drop d k hkd]; rfl
      rw [if_pos (by rw [decide_eq_true_eq]; omega), eb, flag_back, Option.bind_some]
      dsimp only [sm]
      rw [gN hkz, Option.bind_some, ei, lsN, ih (k + 1) _ (by omega) (by omega) (by rw [List.length_set]; exact hz), tk_set _ _ _ hkz, List.append_assoc, List.drop_eq_getElem_cons hkd]
      rfl
    · obtain rfl : k = w := by omega
      rw [if_neg (by rw [decide_eq_true_eq]; omega), ← hd, List.drop_length, List.append_nil, List.take_of_length_le (by omega)]
      rfl
theorem toW_nat (n : Nat) (h : n ≤ 1000000) : (toW (n : Int)).toNat = n := by
  unfold toW
  rw [UInt64.toNat_ofNat']; omega
theorem rows_back (w : Nat) (W : UInt64) (R : wire_Reader) (z a b c e : List UInt8) (rest : Str) (h2 : w ≤ 4096) (hi : i64 ((W.toNat : Nat) : Int) = (w : Int)) (ha : a.length = w) (hb : b.length = w) (hc : c.length = w) (he : e.length = w)
    (xa : ∀ x ∈ a, x ≤ 15) (xb : ∀ x ∈ b, x ≤ 15) (xc : ∀ x ∈ c, x ≤ 15) (xe : ∀ x ∈ e, x ≤ 15) : sketch_Take_l23 (W, R) 5 0 [z, z, z, z] (a ++ (b ++ (c ++ (e ++ rest)))) = some (.inl ([a, b, c, e], rest)) := by
  have T := fun (k : Nat) (s' : Int) (hs' : s' < 4) (c : List (List UInt8)) (y r : List UInt8) (rest : Str) (hg : gi c s' = some y) (hr : r.length = w) (hx : ∀ x ∈ r, x ≤ 15) =>
    take_row (W, R) w hi h2 k s' hs' c y r rest hg hr hx
  rw [T 4 0 (by decide) _ _ a _ (g0 ..) ha xa, s0, j0, T 3 1 (by decide) _ _ b _ (g1 ..) hb xb, s1, j1, T 2 2 (by decide) _ _ c _ (g2 ..) hc xc, s2, j2, T 1 3 (by decide) _ _ e _ (g3 ..) he xe, s3, j3]
  unfold sketch_Take_l23
  rw [if_neg (by decide)]
theorem sm_inl {α β γ : Type} (a : α) (f : α → γ) (g : β → γ) : sm (Sum.inl a : α ⊕ β) f g = f a := rfl
theorem take_all (w : Nat) (T : UInt64) (P Q R : UInt64 × wire_Reader) (rows : List (List UInt8)) (d : List Bool) (Z : sketch_Sketch) (r0 st : Str) (hw : (1 : Int) ≤ (w : Int)) (hW : i64 ((P.1.toNat : Nat) : Int) = (w : Int)) (hT : toW (i64 (10 * (w : Int))) = T)
    (x1 : wire_Reader_Num ⟨r0⟩ 4096 = some (.inl P)) (x2 : wire_Reader_Num P.2 18446744073709551615 = some (.inl Q)) (x3 : wire_Reader_Num Q.2 (T - 1) = some (.inl R))
    (hn : sketch_New (w : Int) Q.1 = some (some Z, 0)) (K : sketch_Take_l23 P 5 0 Z.rows R.2.s = some (.inl (rows, st)))
    (D : sketch_Take_l14 Z (((Z.door.length : Int) - 0).toNat + 1) 0 st Z.door = some (.inl ([], d))) : sketch_Take ⟨r0⟩ = some (.inl (some (⟨Z.wide, Z.seed, rows, d, i64 ((R.1.toNat : Nat) : Int)⟩ : sketch_Sketch), ⟨[]⟩)) := by
  unfold sketch_Take
  rw [x1, Option.bind_some, sm_inl, hW, decide_eq_true hw, must_t, lt_eq, sm_inl, x2, Option.bind_some, sm_inl, hn, Option.bind_some, hT, x3, Option.bind_some, sm_inl, om_some, K, Option.bind_some]
  dsimp only
  rw [D, Option.bind_some]
theorem take_core (w : Nat) (seed W N T : UInt64) (s : Sk) (h1 : 1 ≤ w) (h2 : w ≤ 4096) (hs : s.ok w) (hW : W.toNat = w) (hN : N.toNat = s.n) (hT : T.toNat = 10 * w) (eT : toW ((10 * w : Nat) : Int) = T) :
    sketch_Take ⟨enc 11 W.toNat ++ (enc 11 seed.toNat ++ (enc 11 N.toNat ++ (s.a ++ (s.b ++ (s.c ++ (s.e ++ (bits s.d ++ [])))))))⟩ = some (.inl (some (s.C w seed), ⟨[]⟩)) := by
  have hn := hs.hn
  have ew : i64 ((w : Nat) : Int) = (w : Int) := i64_id (by omega) (by omega)
  have en : i64 ((s.n : Nat) : Int) = (s.n : Int) := i64_id (by omega) (by omega)
  have et : i64 (10 * (w : Int)) = ((10 * w : Nat) : Int) := by rw [i64_id (by omega) (by omega)]; omega
  have c4096 : (4096 : UInt64).toNat = 4096 := by decide
  have c1 : (1 : UInt64).toNat = 1 := by decide
  have cm : (18446744073709551615 : UInt64).toNat = 18446744073709551615 := by decide
  have b1 : W ≤ 4096 := by rw [UInt64.le_iff_toNat_le, hW, c4096]; exact h2
  have b2 : seed ≤ 18446744073709551615 := by rw [UInt64.le_iff_toNat_le, cm]; have := seed.toNat_lt; omega
  have b3 : N ≤ T - 1 := by
    rw [UInt64.le_iff_toNat_le, UInt64.toNat_sub_of_le _ _ (by rw [UInt64.le_iff_toNat_le, hT, c1]; omega), hT, hN, c1]; omega
  have x1 := num_back W 4096 (enc 11 seed.toNat ++ (enc 11 N.toNat ++ (s.a ++ (s.b ++ (s.c ++ (s.e ++ (bits s.d ++ []))))))) b1
  have x2 := num_back seed 18446744073709551615 (enc 11 N.toNat ++ (s.a ++ (s.b ++ (s.c ++ (s.e ++ (bits s.d ++ [])))))) b2
  have x3 := num_back N (T - 1) (s.a ++ (s.b ++ (s.c ++ (s.e ++ (bits s.d ++ []))))) b3
  have K := rows_back w W ⟨enc 11 seed.toNat ++ (enc 11 N.toNat ++ (s.a ++ (s.b ++ (s.c ++ (s.e ++ (bits s.d ++ []))))))⟩ (List.replicate w 0) s.a s.b s.c s.e (bits s.d ++ []) h2 (by rw [hW, ew]) hs.ha hs.hb hs.hc hs.he hs.xa hs.xb hs.xc hs.xe
  have D := take_door (SK w seed (List.replicate w 0) (List.replicate w 0) (List.replicate w 0) (List.replicate w 0) (List.replicate w false) 0) s.d w (by simp) hs.hd h2 [] (((w : Int) - 0).toNat + 1) 0 (List.replicate w false) (by omega) (by omega) (by simp)
  rw [List.drop_zero, List.take_zero, List.nil_append] at D
  have el : (List.replicate w false).length = w := by simp
  generalize hZ : SK w seed (List.replicate w 0) (List.replicate w 0) (List.replicate w 0) (List.replicate w 0) (List.replicate w false) 0 = Z at D
  have hn1 : sketch_New (w : Int) seed = some (some Z, 0) := by rw [← hZ]; exact new_c w seed h1 h2
  have z1 : Z.rows = [List.replicate w 0, List.replicate w 0, List.replicate w 0, List.replicate w 0] := by rw [← hZ]
  have z2 : Z.door = List.replicate w false := by rw [← hZ]
  have z3 : Z.wide = (w : Int) := by rw [← hZ]
  have z4 : Z.seed = seed := by rw [← hZ]
  have D' : sketch_Take_l14 Z (((w : Int) - 0).toNat + 1) 0 (bits s.d ++ []) (List.replicate w false) = some (.inl ([], s.d)) := D
  rw [take_all w T (W, ⟨_⟩) (seed, ⟨_⟩) (N, ⟨_⟩) [s.a, s.b, s.c, s.e] s.d Z _ (bits s.d ++ []) (by omega) (by dsimp only; rw [hW, ew]) (by rw [et, eT]) x1 x2 x3 hn1 (by rw [z1]; exact K) (by rw [z2, el]; exact D'), z3, z4]
  dsimp only
  rw [hN, en]
theorem take_back (w : Nat) (seed : UInt64) (s : Sk) (h1 : 1 ≤ w) (h2 : w ≤ 4096) (hs : s.ok w) : sketch_Take ⟨s.bytes w seed⟩ = some (.inl (some (s.C w seed), ⟨[]⟩)) := by
  have hn := hs.hn
  have hW := toW_nat w (by omega)
  have hN := toW_nat s.n (by omega)
  have hT := toW_nat (10 * w) (by omega)
  unfold Sk.bytes
  generalize toW (w : Int) = W at hW ⊢
  generalize toW (s.n : Int) = N at hN ⊢
  generalize hE : toW ((10 * w : Nat) : Int) = T at hT
  have h := take_core w seed W N T s h1 h2 hs hW hN hT hE
  rw [← h]
  simp only [List.append_assoc, List.append_nil]
theorem import_back (w : Nat) (seed : UInt64) (s : Sk) (h1 : 1 ≤ w) (h2 : w ≤ 4096) (hs : s.ok w) : sketch_Import (s.bytes w seed) = some (some (s.C w seed), 0) := by
  unfold sketch_Import sketch_Import_1
  rw [take_back w seed s h1 h2 hs, Option.bind_some]
  rfl
theorem goes_loop (l : List Str) (w : Nat) (h1 : 1 ≤ w) (h2 : w ≤ 32) (seed : UInt64) : ∀ (f i : Nat) (s : Sk), f = l.length - i + 1 → i ≤ l.length → i ≤ 100 → s.ok w →
    hawthornlaw05_SketchGoesOn_l1 l f (some (s.C w seed)) (i : Int) = some (.inl ()) := by
  intro f
  induction f with
  | zero => intro i s h; omega
  | succ f ih =>
    intro i s hf hi hi3 hs
    unfold hawthornlaw05_SketchGoesOn_l1
    by_cases h : i < l.length ∧ i < 100
    · have e : (decide ((i : Int) < (l.length : Int)) && decide ((i : Int) < 100)) = true := by simp; omega
      obtain ⟨r, hr, hrl⟩ := few_ex l[i]
      obtain ⟨q, hq⟩ := pk_ex w seed r h1 (by omega) hrl
      have hok := put_ok (p := q) h1 hs
      have ei : i64 ((i : Int) + 1) = ((i + 1 : Nat) : Int) := by rw [i64_id] <;> omega
      have A := Add_c h1 (by omega) hs hq
      rw [if_pos e, gN h.1]
      by_cases h7 : (((i : Int).tmod 7) == 3) = true
      · rw [if_pos h7, om_some, Exp_c (by omega) hs, Option.bind_some, import_back w seed s h1 (by omega) hs, Option.bind_some, if_neg (show ¬ ((0 : Int) != 0) = true by decide), Option.bind_some, hr, Option.bind_some]
        dsimp only
        rw [om_some, A, Option.bind_some, Option.bind_some, Exp_c (by omega) hok, Option.bind_some, Option.bind_some, if_neg (by simp), Option.bind_some]
        dsimp only
        rw [ei]
        exact ih (i + 1) (s.put w q) (by omega) (by omega) (by omega) hok
      · rw [if_neg h7, Option.bind_some, hr, Option.bind_some, om_some, A, Option.bind_some, Option.bind_some]
        dsimp only
        rw [ei]
        exact ih (i + 1) (s.put w q) (by omega) (by omega) (by omega) hok
    · have e : ¬ (decide ((i : Int) < (l.length : Int)) && decide ((i : Int) < 100)) = true := by simp; omega
      rw [if_neg e]
theorem SketchGoesOn (n : Int) (seed : UInt64) (l : List Str) {p q : Prop} (_ : p) (_ : q) (_ : l.length * 16 ≤ reachBytes) : hawthornlaw05_SketchGoesOn n seed l = some true := by
  obtain ⟨w, s, h0, h1, h2, hs⟩ := both_ex n seed
  have h3 : hawthornlaw05_SketchGoesOn_l1 l (((l.length : Int) - 0).toNat + 1) (some (s.C w seed)) 0 = some (.inl ()) := goes_loop l w h1 h2 seed _ 0 s (by omega) (by omega) (by omega) hs
  unfold hawthornlaw05_SketchGoesOn
  rw [h0, Option.bind_some, awake_true, Option.bind_some, if_neg (show ¬ (!true || !true) = true by decide)]
  dsimp only
  rw [h3, Option.bind_some]
end Go.Proofs.Ytlahbmoebbflbaa.Pure
