import Derived.Test.YtlahbmoebbflbaaW4
import Derived.Test.YtlahbmoebbflbaaPmixA
import Derived.Test.YtlahbmoebbflbaaPskA
import Derived.Test.YtlahbmoebbflbaaPskB
import Derived.Test.YtlahbmoebbflbaaPskC
import Derived.Test.YtlahbmoebbflbaaPskF
import Derived.Test.YtlahbmoebbflbaaPskN
import Derived.Test.YtlahbmoebbflbaaPskD
import Derived.Test.YtlahbmoebbflbaaPwireC
set_option linter.unusedVariables false
set_option linter.unusedSectionVars false
set_option linter.unusedSimpArgs false
set_option maxRecDepth 100000
set_option maxHeartbeats 8000000

namespace Go.Proofs.Ytlahbmoebbflbaa.Pure
open Go Go.Proofs.Ytlahbmoebbflbaa.Hw Go.Proofs.Ytlahbmoebbflbaa

/-! the bytes: the code's and the document's -/
theorem toY_nat (x : UInt8) : toY ((x.toNat : Nat) : Int) = x := by
  unfold toY
  apply UInt8.toNat_inj.1
  have := x.toNat_lt
  simp only [UInt8.toNat_ofNat']
  omega
def bits (d : List Bool) : Str := d.map fun b => if b then 1 else 0
theorem flag_c (b : Bool) : wire_Flag b = [if b then 1 else 0] := by cases b <;> rfl
theorem flag_m (b : Bool) : hawthornref03_Flag b = [if b then 1 else 0] := by cases b <;> rfl
theorem bits_drop (d : List Bool) (k : Nat) (h : k < d.length) : bits (d.drop k) = [if d[k] then 1 else 0] ++ bits (d.drop (k + 1)) := by
  unfold bits
  rw [List.drop_eq_getElem_cons h, List.map_cons]; rfl
theorem exp_door (S : sketch_Sketch) (d : List Bool) (hd : S.door = d) (hl : d.length ≤ 4096) : ∀ (f k : Nat) (out : Str), f = d.length - k + 1 → k ≤ d.length → out.length + (d.length - k) ≤ 100000 →
    sketch_Sketch_Export_l2 S f out (k : Int) = some (out ++ bits (d.drop k)) := by
  intro f
  induction f with
  | zero => intro k out h; omega
  | succ f ih =>
    intro k out hf hk ho
    unfold sketch_Sketch_Export_l2
    rw [hd]
    by_cases h : k < d.length
    · have ei : i64 ((k : Int) + 1) = ((k + 1 : Nat) : Int) := by rw [i64_id] <;> omega
      rw [if_pos (by rw [decide_eq_true_eq]; omega), gN h, Option.bind_some, flag_c, if_pos (by simp [maxS]; omega), ei, ih (k + 1) _ (by omega) (by omega) (by simp; omega), bits_drop d k h, List.append_assoc]
    · obtain rfl : k = d.length := by omega
      rw [if_neg (by rw [decide_eq_true_eq]; omega), List.drop_length]
      simp [bits]
theorem put_door (S : hawthornref05_Sketch) (d : List Bool) (hd : S.Door = d) (hw : S.Wide = (d.length : Int)) (hl : d.length ≤ 4096) : ∀ (f k : Nat) (out : Str), f = d.length - k + 1 → k ≤ d.length → out.length + (d.length - k) ≤ 100000 →
    hawthornref05_Sketch_Put_l14 S f out (k : Int) = some (out ++ bits (d.drop k)) := by
  intro f
  induction f with
  | zero => intro k out h; omega
  | succ f ih =>
    intro k out hf hk ho
    unfold hawthornref05_Sketch_Put_l14
    rw [hd, hw]
    by_cases h : k < d.length
    · have ei : i64 ((k : Int) + 1) = ((k + 1 : Nat) : Int) := by rw [i64_id] <;> omega
      rw [if_pos (by rw [decide_eq_true_eq]; omega), gN h, Option.bind_some, flag_m, if_pos (by simp [maxS]; omega), ei, ih (k + 1) _ (by omega) (by omega) (by simp; omega), bits_drop d k h, List.append_assoc]
    · obtain rfl : k = d.length := by omega
      rw [if_neg (by rw [decide_eq_true_eq]; omega), List.drop_length]
      simp [bits]
theorem put_row (S : hawthornref05_Sketch) (i : Int) (r : List UInt8) (hr : gi S.Rows i = some (N8 r)) (hw : S.Wide = (r.length : Int)) (hl : r.length ≤ 4096) : ∀ (f k : Nat) (out : Str), f = r.length - k + 1 → k ≤ r.length → out.length + (r.length - k) ≤ 100000 →
    hawthornref05_Sketch_Put_l27 S i f out (k : Int) = some (out ++ r.drop k) := by
  intro f
  induction f with
  | zero => intro k out h; omega
  | succ f ih =>
    intro k out hf hk ho
    unfold hawthornref05_Sketch_Put_l27
    rw [hw]
    by_cases h : k < r.length
    · have ei : i64 ((k : Int) + 1) = ((k + 1 : Nat) : Int) := by rw [i64_id] <;> omega
      rw [if_pos (by rw [decide_eq_true_eq]; omega), hr, Option.bind_some, gN8 h, Option.bind_some, toY_nat, if_pos (by simp [maxS]; omega), ei, ih (k + 1) _ (by omega) (by omega) (by simp; omega), List.drop_eq_getElem_cons h, List.append_assoc]
      rfl
    · obtain rfl : k = r.length := by omega
      rw [if_neg (by rw [decide_eq_true_eq]; omega), List.drop_length, List.append_nil]
def Sk.bytes (s : Sk) (w : Nat) (seed : UInt64) : Str := (((((enc 11 (toW (w : Int)).toNat ++ enc 11 seed.toNat ++ enc 11 (toW (s.n : Int)).toNat) ++ s.a) ++ s.b) ++ s.c) ++ s.e) ++ bits s.d

section
variable {w : Nat} {seed : UInt64} {s : Sk} (h2 : w ≤ 4096) (hs : s.ok w)
include h2 hs
theorem exp_rows (out : Str) (ho : out.length ≤ 100) : sketch_Sketch_Export_l3 (s.C w seed) 5 out 0 = some ((((out ++ s.a) ++ s.b) ++ s.c) ++ s.e) := by
  have ha := hs.ha; have hb := hs.hb; have hc := hs.hc; have he := hs.he
  unfold sketch_Sketch_Export_l3
  rw [if_pos (by decide), show gi (s.C w seed).rows 0 = _ from g0 .., Option.bind_some, if_pos (by simp [maxS]; omega), j0]
  unfold sketch_Sketch_Export_l3
  rw [if_pos (by decide), show gi (s.C w seed).rows 1 = _ from g1 .., Option.bind_some, if_pos (by simp [maxS]; omega), j1]
  unfold sketch_Sketch_Export_l3
  rw [if_pos (by decide), show gi (s.C w seed).rows 2 = _ from g2 .., Option.bind_some, if_pos (by simp [maxS]; omega), j2]
  unfold sketch_Sketch_Export_l3
  rw [if_pos (by decide), show gi (s.C w seed).rows 3 = _ from g3 .., Option.bind_some, if_pos (by simp [maxS]; omega), j3]
  unfold sketch_Sketch_Export_l3
  rw [if_neg (by decide)]
theorem put_rows (out : Str) (ho : out.length ≤ 100) : hawthornref05_Sketch_Put_l23 (s.M w seed) 5 out 0 = some ((((out ++ s.a) ++ s.b) ++ s.c) ++ s.e) := by
  have ha := hs.ha; have hb := hs.hb; have hc := hs.hc; have he := hs.he
  have R := fun (i : Int) (r : List UInt8) (hr : gi (s.M w seed).Rows i = some (N8 r)) (hl : r.length = w) (o : Str) (hlo : o.length ≤ 20000) =>
    put_row (s.M w seed) i r hr (by rw [hl]) (by omega) ((((w : Nat) : Int) - 0).toNat + 1) 0 o (by omega) (by omega) (by omega)
  simp only [List.drop_zero] at R
  unfold hawthornref05_Sketch_Put_l23
  rw [if_pos (by decide), show hawthornref05_Sketch_Put_l27 (s.M w seed) 0 (((s.M w seed).Wide - 0).toNat + 1) out 0 = _ from R 0 s.a (g0 ..) ha _ (by omega), Option.bind_some, Option.bind_some, j0]
  unfold hawthornref05_Sketch_Put_l23
  rw [if_pos (by decide), show hawthornref05_Sketch_Put_l27 (s.M w seed) 1 (((s.M w seed).Wide - 0).toNat + 1) _ 0 = _ from R 1 s.b (g1 ..) hb _ (by simp; omega), Option.bind_some, Option.bind_some, j1]
  unfold hawthornref05_Sketch_Put_l23
  rw [if_pos (by decide), show hawthornref05_Sketch_Put_l27 (s.M w seed) 2 (((s.M w seed).Wide - 0).toNat + 1) _ 0 = _ from R 2 s.c (g2 ..) hc _ (by simp; omega), Option.bind_some, Option.bind_some, j2]
  unfold hawthornref05_Sketch_Put_l23
  rw [if_pos (by decide), show hawthornref05_Sketch_Put_l27 (s.M w seed) 3 (((s.M w seed).Wide - 0).toNat + 1) _ 0 = _ from R 3 s.e (g3 ..) he _ (by simp; omega), Option.bind_some, Option.bind_some, j3]
  unfold hawthornref05_Sketch_Put_l23
  rw [if_neg (by decide)]
theorem Exp_c : sketch_Sketch_Export (s.C w seed) = some (s.bytes w seed) := by
  have ha := hs.ha; have hb := hs.hb; have hc := hs.hc; have he := hs.he; have hd := hs.hd
  have l1 := enc_len 11 (toW (w : Int)).toNat
  have l2 := enc_len 11 seed.toNat
  have l3 := enc_len 11 (toW (s.n : Int)).toNat
  unfold sketch_Sketch_Export
  dsimp only
  rw [(num_enc _).1, Option.bind_some, (num_enc _).1, Option.bind_some, (num_enc _).1]
  unfold Sk.bytes
  generalize enc 11 (toW (w : Int)).toNat = x1 at l1 ⊢
  generalize enc 11 seed.toNat = x2 at l2 ⊢
  generalize enc 11 (toW (s.n : Int)).toNat = x3 at l3 ⊢
  rw [if_pos (by simp [maxS]; omega), Option.bind_some, if_pos (by simp [maxS]; omega), exp_rows h2 hs _ (by simp; omega), Option.bind_some]
  have D := exp_door (s.C w seed) s.d rfl (by omega) (((s.d.length : Int) - 0).toNat + 1) 0 (((((x1 ++ x2 ++ x3) ++ s.a) ++ s.b) ++ s.c) ++ s.e) (by omega) (by omega) (by simp; omega)
  rw [show sketch_Sketch_Export_l2 (s.C w seed) (((s.d.length : Int) - 0).toNat + 1) _ 0 = _ from D, Option.bind_some, List.drop_zero]
theorem Put_m : hawthornref05_Sketch_Put (s.M w seed) = some (s.bytes w seed) := by
  have ha := hs.ha; have hb := hs.hb; have hc := hs.hc; have he := hs.he; have hd := hs.hd
  have l1 := enc_len 11 (toW (w : Int)).toNat
  have l2 := enc_len 11 seed.toNat
  have l3 := enc_len 11 (toW (s.n : Int)).toNat
  unfold hawthornref05_Sketch_Put
  dsimp only
  rw [(num_enc _).2, Option.bind_some, (num_enc _).2, Option.bind_some, (num_enc _).2]
  unfold Sk.bytes
  generalize enc 11 (toW (w : Int)).toNat = x1 at l1 ⊢
  generalize enc 11 seed.toNat = x2 at l2 ⊢
  generalize enc 11 (toW (s.n : Int)).toNat = x3 at l3 ⊢
  rw [if_pos (by simp [maxS]; omega), Option.bind_some, if_pos (by simp [maxS]; omega), put_rows h2 hs _ (by simp; omega), Option.bind_some]
  have D := put_door (s.M w seed) s.d rfl (by rw [hd]) (by omega) (((w : Int) - 0).toNat + 1) 0 (((((x1 ++ x2 ++ x3) ++ s.a) ++ s.b) ++ s.c) ++ s.e) (by omega) (by omega) (by simp; omega)
  rw [show hawthornref05_Sketch_Put_l14 (s.M w seed) (((w : Int) - 0).toNat + 1) _ 0 = _ from D, Option.bind_some, List.drop_zero]
end
end Go.Proofs.Ytlahbmoebbflbaa.Pure
