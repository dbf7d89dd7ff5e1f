import Derived.Test.YtlahbmoebbflbaaGreatW4
import Derived.Test.YtlahbmoebbflbaaGreatQ0
import Derived.Test.YtlahbmoebbflbaaGreatQ1
set_option linter.unusedVariables false
set_option linter.unusedSectionVars false
set_option linter.unusedSimpArgs false
set_option maxRecDepth 100000
set_option maxHeartbeats 8000000

namespace Go.Proofs.YtlahbmoebbflbaaGreat.Pure
open Go Go.Proofs.YtlahbmoebbflbaaGreat.Hw Go.Proofs.YtlahbmoebbflbaaGreat

/-! the bytes: the code's and the document's -/
theorem toY_nat (x : UInt8) : toY ((x.toNat : Nat) : Int) = x := by
  unfold toY
  apply UInt8.toNat_inj.1
  have := x.toNat_lt
  simp only [UInt8.toNat_ofNat']
  omega
def bits (d : List Bool) : Str := d.map fun b => if b then 1 else 0
theorem flag_c (b : Bool) : wire_Flag b = [if b then 1 else 0] := by cases b <;> rfl
theorem flag_m (b : Bool) : hawthornref03_Flag b = [if b then 1 else 0] := by cases b <;> rfl
theorem bits_drop (d : List Bool) (k : Nat) (h : k < d.length) : bits (d.drop k) = [if d[k] then 1 else 0] ++ bits (d.drop (k + 1)) := by
  unfold bits
  rw [List.drop_eq_getElem_cons h, List.map_cons]; rfl
theorem exp_door (S : sketch_Sketch) (d : List Bool) (hd : S.door = d) (hl : d.length ≤ 4096) : ∀ (f k : Nat) (out : Str), f = d.length - k + 1 → k ≤ d.length → out.length + (d.length - k) ≤ 100000 →
    sketch_Sketch_Export_l0 S f out (k : Int) = some (out ++ bits (d.drop k)) := by
  intro f
  induction f with
  | zero => intro k out h; omega
  | succ f ih =>
    intro k out hf hk ho
    unfold sketch_Sketch_Export_l0
    rw [hd]
    by_cases h : k < d.length
    · have ei : i64 ((k : Int) + 1) = ((k + 1 : Nat) : Int) := by rw [i64_id] <;> omega
      rw [if_pos (by rw [decide_eq_true_eq]; omega), gN h, Option.bind_some, flag_c, if_pos (by simp [maxS]; omega), ei, ih (k + 1) _ (by omega) (by omega) (by simp; omega), bits_drop d k h, List.append_assoc]
    · obtain rfl : k = d.length := by omega
      rw [if_neg (by rw [decide_eq_true_eq]; omega), List.drop_length]
      simp [bits]
theorem put_door (S : hawthornref05_Sketch) (d : List Bool) (hd : S.Door = d) (hw : S.Wide = (d.length : Int)) (hl : d.length ≤ 4096) : ∀ (f k : Nat) (out : Str), f = d.length - k + 1 → k ≤ d.length → out.length + (d.length - k) ≤ 100000 →
    hawthornref05_Sketch_Put_l0 S f out (k : Int) = some (out ++ bits (d.drop k)) := by
  intro f
  induction f with
  | zero => intro k out h; omega
  | succ f ih =>
    intro k out hf hk ho
    unfold hawthornref05_Sketch_Put_l0
    rw [hd, hw]
    by_cases h : k < d.length
    · have ei : i64 ((k : Int) + 1) = ((k + 1 : Nat) : Int) := by rw [i64_id] <;> omega
      rw [if_pos (by rw [decide_eq_true_eq]; omega), gN h, Option.bind_some, flag_m, if_pos (by simp [maxS]; omega), ei, ih (k + 1) _ (by omega) (by omega) (by simp; omega), bits_drop d k h, List.append_assoc]
    · obtain rfl : k = d.length := by omega
      rw [if_neg (by rw [decide_eq_true_eq]; omega), List.drop_length]
      simp [bits]
theorem put_row (S : hawthornref05_Sketch) (i : Int) (r : List UInt8) (hr : gi S.Rows i = some (N8 r)) (hw : S.Wide = (r.length : Int)) (hl : r.length ≤ 4096) : ∀ (f k : Nat) (out : Str), f = r.length - k + 1 → k ≤ r.length → out.length + (r.length - k) ≤ 100000 →
    hawthornref05_Sketch_Put_l2 S i f out (k : Int) = some (out ++ r.drop k) := by
  intro f
  induction f with
  | zero => intro k out h; omega
  | succ f ih =>
    intro k out hf hk ho
    unfold hawthornref05_Sketch_Put_l2
    rw [hw]
    by_cases h : k < r.length
    · have ei : i64 ((k : Int) + 1) = ((k + 1 : Nat) : Int) := by rw [i64_id] <;> omega
      rw [if_pos (by rw [decide_eq_true_eq]; omega), hr, Option.bind_some, gN8 h, Option.bind_some, toY_nat, if_pos (by simp [maxS]; omega), ei, ih (k + 1) _ (by omega) (by omega) (by simp; omega), List.drop_eq_getElem_cons h, List.append_assoc]
      rfl
    · obtain rfl : k = r.length := by omega
      rw [if_neg (by rw [decide_eq_true_eq]; omega), List.drop_length, List.append_nil]
def Sk.bytes (s : Sk) (w : Nat) (seed : UInt64) : Str := (((((enc 11 (toW (w : Int)).toNat ++ enc 11 seed.toNat ++ enc 11 (toW (s.n : Int)).toNat) ++ s.a) ++ s.b) ++ s.c) ++ s.e) ++ bits s.d

section
variable {w : Nat} {seed : UInt64} {s : Sk} (h2 : w ≤ 4096) (hs : s.ok w)
include h2 hs
theorem exp_rows (out : Str) (ho : out.length ≤ 100) : sketch_Sketch_Export_l1 (s.C w seed) 5 out 0 = some ((((out ++ s.a) ++ s.b) ++ s.c) ++ s.e) := by
  have ha := hs.ha; have hb := hs.hb; have hc := hs.hc; have he := hs.he
  unfold sketch_Sketch_Export_l1
  rw [if_pos (by decide), show gi (s.C w seed).rows 0 = _ from g0 .., Option.bind_some, if_pos (by simp [maxS]; omega), j0]
  unfold sketch_Sketch_Export_l1
  rw [if_pos (by decide), show gi (s.C w seed).rows 1 = _ from g1 .., Option.bind_some, if_pos (by simp [maxS]; omega), j1]
  unfold sketch_Sketch_Export_l1
  rw [if_pos (by decide), show gi (s.C w seed).rows 2 = _ from g2 .., Option.bind_some, if_pos (by simp [maxS]; omega), j2]
  unfold sketch_Sketch_Export_l1
  rw [if_pos (by decide), show gi (s.C w seed).rows 3 = _ from g3 .., Option.bind_some, if_pos (by simp [maxS]; omega), j3]
  unfold sketch_Sketch_Export_l1
  rw [if_neg (by decide)]
theorem put_rows (out : Str) (ho : out.length ≤ 100) : hawthornref05_Sketch_Put_l1 (s.M w seed) 5 out 0 = some ((((out ++ s.a) ++ s.b) ++ s.c) ++ s.e) := by
  have ha := hs.ha; have hb := hs.hb; have hc := hs.hc; have he := hs.he
  have R := fun (i : Int) (r : List UInt8) (hr : gi (s.M w seed).Rows i = some (N8 r)) (hl : r.length = w) (o : Str) (hlo : o.length ≤ 20000) =>
    put_row (s.M w seed) i r hr (by rw [hl]) (by omega) ((((w : Nat) : Int) - 0).toNat + 1) 0 o (by omega) (by omega) (by omega)
  simp only [List.drop_zero] at R
  unfold hawthornref05_Sketch_Put_l1
  rw [if_pos (by decide), show hawthornref05_Sketch_Put_l2 (s.M w seed) 0 (((s.M w seed).Wide - 0).toNat + 1) out 0 = _ from R 0 s.a (g0 ..) ha _ (by omega), Option.bind_some, Option.bind_some, j0]
  unfold hawthornref05_Sketch_Put_l1
  rw [if_pos (by decide), show hawthornref05_Sketch_Put_l2 (s.M w seed) 1 (((s.M w seed).Wide - 0).toNat + 1) _ 0 = _ from R 1 s.b (g1 ..) hb _ (by simp; omega), Option.bind_some, Option.bind_some, j1]
  unfold hawthornref05_Sketch_Put_l1
  rw [if_pos (by decide), show hawthornref05_Sketch_Put_l2 (s.M w seed) 2 (((s.M w seed).Wide - 0).toNat + 1) _ 0 = _ from R 2 s.c (g2 ..) hc _ (by simp; omega), Option.bind_some, Option.bind_some, j2]
  unfold hawthornref05_Sketch_Put_l1
  rw [if_pos (by decide), show hawthornref05_Sketch_Put_l2 (s.M w seed) 3 (((s.M w seed).Wide - 0).toNat + 1) _ 0 = _ from R 3 s.e (g3 ..) he _ (by simp; omega), Option.bind_some, Option.bind_some, j3]
  unfold hawthornref05_Sketch_Put_l1
  rw [if_neg (by decide)]
theorem Exp_c : sketch_Sketch_Export (s.C w seed) = some (s.bytes w seed) := by
  have ha := hs.ha; have hb := hs.hb; have hc := hs.hc; have he := hs.he; have hd := hs.hd
  have l1 := enc_len 11 (toW (w : Int)).toNat
  have l2 := enc_len 11 seed.toNat
  have l3 := enc_len 11 (toW (s.n : Int)).toNat
  unfold sketch_Sketch_Export
  dsimp only
  rw [(num_enc _).1, Option.bind_some, (num_enc _).1, Option.bind_some, (num_enc _).1]
  unfold Sk.bytes
  generalize enc 11 (toW (w : Int)).toNat = x1 at l1 ⊢
  generalize enc 11 seed.toNat = x2 at l2 ⊢
  generalize enc 11 (toW (s.n : Int)).toNat = x3 at l3 ⊢
  rw [if_pos (by simp [maxS]; omega), Option.bind_some, if_pos (by simp [maxS]; omega), exp_rows h2 hs _ (by simp; omega), Option.bind_some]
  have D := exp_door (s.C w seed) s.d rfl (by omega) (((s.d.length : Int) - 0).toNat + 1) 0 (((((x1 ++ x2 ++ x3) ++ s.a) ++ s.b) ++ s.c) ++ s.e) (by omega) (by omega) (by simp; omega)
  rw [show sketch_Sketch_Export_l0 (s.C w seed) (((s.d.length : Int) - 0).toNat + 1) _ 0 = _ from D, Option.bind_some, List.drop_zero]
theorem Put_m : hawthornref05_Sketch_Put (s.M w seed) = some (s.bytes w seed) := by
  have ha := hs.ha; have hb := hs.hb; have hc := hs.hc; have he := hs.he; have hd := hs.hd
  have l1 := enc_len 11 (toW (w : Int)).toNat
  have l2 := enc_len 11 seed.toNat
  have l3 := enc_len 11 (toW (s.n : Int)).toNat
  unfold hawthornref05_Sketch_Put
  dsimp only
  rw [(num_enc _).2, Option.bind_some, (num_enc _).2, Option.bind_some, (num_enc _).2]
  unfold Sk.bytes
  generalize enc 11 (toW (w : Int)).toNat = x1 at l1 ⊢
  generalize enc 11 seed.toNat = x2 at l2 ⊢
  generalize enc 11 (toW (s.n : Int)).toNat = x3 at l3 ⊢
  rw [if_pos (by simp [maxS]; omega), Option.bind_some, if_pos (by simp [maxS]; omega), put_rows h2 hs _ (by simp; omega), Option.bind_some]
  have D := put_door (s.M w seed) s.d rfl (by rw [hd]) (by omega) (((w : Int) - 0).toNat + 1) 0 (((((x1 ++ x2 ++ x3) ++ s.a) ++ s.b) ++ s.c) ++ s.e) (by omega) (by omega) (by simp; omega)
  rw [show hawthornref05_Sketch_Put_l0 (s.M w seed) (((w : Int) - 0).toNat + 1) _ 0 = _ from D, Option.bind_some, List.drop_zero]
end
end Go.Proofs.YtlahbmoebbflbaaGreat.Pure

namespace Go.Proofs.YtlahbmoebbflbaaGreat.Pure
open Go Go.Proofs.YtlahbmoebbflbaaGreat.Hw Go.Proofs.YtlahbmoebbflbaaGreat

/-! what was written is read again: the code's reader alone -/
theorem sl_lo {s : Str} {n : Int} (h0 : 0 ≤ n) (h1 : n ≤ (s.length : Int)) : sl s 0 n = some (s.take n.toNat) := by
  unfold sl
  rw [if_pos ⟨by omega, h0, h1⟩]
  simp
theorem sl_hi {s : Str} {n : Int} (h0 : 0 ≤ n) (h1 : n ≤ (s.length : Int)) : sl s n (s.length : Int) = some (s.drop n.toNat) := by
  unfold sl
  rw [if_pos ⟨h0, h1, by omega⟩, List.take_of_length_le (by simp)]

theorem digit_val (n unit : UInt64) (c : UInt8) (j : Nat) (hj : j ≤ 9) (hn : n.toNat < 2 ^ (7 * j)) (hu : unit.toNat = 2 ^ (7 * j)) (h9 : j = 9 → c.toNat ≤ 1) :
    n ||| shWl ((c % 128).toUInt64) (7 * (j : Int)) = n + (c.toUInt64 % 128) * unit ∧ (n + (c.toUInt64 % 128) * unit).toNat = n.toNat + c.toNat % 128 * 2 ^ (7 * j) := by
  have hd : (c % 128).toNat = c.toNat % 128 := by rw [UInt8.toNat_mod]; rfl
  have hd64 : ((c % 128).toUInt64).toNat = c.toNat % 128 := by rw [UInt8.toNat_toUInt64, hd]
  have he64 : (c.toUInt64 % 128).toNat = c.toNat % 128 := by rw [UInt64.toNat_mod, UInt8.toNat_toUInt64]; rfl
  have hcl := c.toNat_lt
  have hm : c.toNat % 128 < 128 := Nat.mod_lt _ (by decide)
  have htop : c.toNat % 128 * 2 ^ (7 * j) + 2 ^ (7 * j) ≤ 2 ^ 64 := by
    by_cases e9 : j = 9
    · have := h9 e9
      subst e9
      have h1 : c.toNat % 128 + 1 ≤ 2 := by have := Nat.mod_le c.toNat 128; omega
      have h2 : (c.toNat % 128 + 1) * 2 ^ (7 * 9) ≤ 2 * 2 ^ (7 * 9) := Nat.mul_le_mul_right _ h1
      rw [Nat.add_mul, Nat.one_mul] at h2
      exact Nat.le_trans h2 (by decide)
    · have h2 : (c.toNat % 128 + 1) * 2 ^ (7 * j) ≤ 128 * 2 ^ (7 * 8) := Nat.mul_le_mul (by omega) (Nat.pow_le_pow_right (by decide) (by omega))
      rw [Nat.add_mul, Nat.one_mul] at h2
      exact Nat.le_trans h2 (by decide)
  have hpos : 0 < 2 ^ (7 * j) := Nat.pow_pos (by decide)
  have hmul : ((c.toUInt64 % 128) * unit).toNat = c.toNat % 128 * 2 ^ (7 * j) := by
    rw [UInt64.toNat_mul, he64, hu, Nat.mod_eq_of_lt (Nat.lt_of_lt_of_le (Nat.lt_add_of_pos_right hpos) htop)]
  have hadd : (n + (c.toUInt64 % 128) * unit).toNat = n.toNat + c.toNat % 128 * 2 ^ (7 * j) := by
    rw [UInt64.toNat_add, hmul, Nat.mod_eq_of_lt (Nat.lt_of_lt_of_le (by rw [Nat.add_comm]; exact Nat.add_lt_add_left hn _) htop)]
  refine ⟨?_, hadd⟩
  apply UInt64.toNat_inj.1
  rw [hadd, UInt64.toNat_or]
  have hmin : min (7 * (j : Int)).toNat 64 = 7 * j := by omega
  have hsh : (shWl ((c % 128).toUInt64) (7 * (j : Int))).toNat = c.toNat % 128 * 2 ^ (7 * j) := by
    unfold shWl
    rw [hmin, hd64, UInt64.toNat_ofNat', Nat.mod_eq_of_lt (Nat.lt_of_lt_of_le (Nat.lt_add_of_pos_right hpos) htop)]
  rw [hsh, Nat.or_comm, Nat.mul_comm, ← Nat.two_pow_add_eq_or_of_lt hn, Nat.add_comm]

theorem one_cons (c : UInt8) (tl : Str) : wire_Reader_Bytes ⟨c :: tl⟩ 1 = some (.inl ([c], ⟨tl⟩)) := by
  have e1 : (decide ((1 : Int) < 0) || decide (((c :: tl).length : Int) < 1)) = false := by simp; omega
  unfold wire_Reader_Bytes
  simp only [e1, Bool.false_eq_true, if_false, Option.bind_some]
  rw [sl_lo (by omega) (by simp; omega), sl_hi (by omega) (by simp; omega)]
  rfl
theorem acc_next (n d j : Nat) (hn : n < 2 ^ (7 * j)) (hm : d < 128) : n + d * 2 ^ (7 * j) < 2 ^ (7 * (j + 1)) := by
  have e2 : 2 ^ (7 * (j + 1)) = 2 ^ (7 * j) * 128 := by rw [Nat.mul_add, Nat.pow_add]
  rw [e2]
  generalize 2 ^ (7 * j) = p at *
  have : (d + 1) * p ≤ 128 * p := Nat.mul_le_mul_right _ (by omega)
  rw [Nat.add_mul] at this
  omega

theorem i7 (j : Nat) (hj : j < 10) : i64 (7 * (j : Int)) = 7 * (j : Int) := i64_id (by omega) (by omega)
theorem i7n (j : Nat) : 0 ≤ 7 * (j : Int) := by omega
theorem ij1 (j : Nat) (hj : j < 10) : i64 ((j : Int) + 1) = ((j + 1 : Nat) : Int) := by rw [i64_id] <;> omega
theorem pow_split (j : Nat) (hj : j + 1 ≤ 9) : 2 ^ (64 - 7 * j) = 128 * 2 ^ (64 - 7 * (j + 1)) := by
  rw [show 64 - 7 * j = 7 + (64 - 7 * (j + 1)) by omega, Nat.pow_add]

theorem one_round (k j : Nat) (n : UInt64) (c : UInt8) (tl : Str) (hj : j < 10) (hb : ((((j : Int) == 9) && decide (1 < c)) || (decide (0 < (j : Int)) && (c == 0))) = false) :
    wire_Reader_Num_l0 (k + 1) n (j : Int) (c :: tl) = if decide (c < 128) = true then some (.inl (n ||| shWl ((c % 128).toUInt64) (7 * (j : Int)), tl)) else wire_Reader_Num_l0 k (n ||| shWl ((c % 128).toUInt64) (7 * (j : Int))) ((j + 1 : Nat) : Int) tl := by
  conv => lhs; unfold wire_Reader_Num_l0
  have e : decide ((j : Int) < 10) = true := by simp; omega
  rw [if_pos e, one_cons c tl, Option.bind_some]
  dsimp only [sm]
  have hg : gi [c] 0 = some c := rfl
  rw [hg, Option.bind_some, hb, if_neg (by decide), Option.bind_some]
  dsimp only
  rw [i7 j hj, if_pos (i7n j), ij1 j hj]

theorem unit_of (j : Nat) (hj : j ≤ 9) : (UInt64.ofNat (2 ^ (7 * j))).toNat = 2 ^ (7 * j) := by
  rw [UInt64.toNat_ofNat', Nat.mod_eq_of_lt (Nat.pow_lt_pow_right (by decide) (by omega))]
theorem read_last (j v : Nat) (n : UInt64) (rest : Str) (hj : j ≤ 9) (hv : v < 2 ^ (64 - 7 * j)) (hp : 0 < j → 0 < v) (h128 : v < 128) (hn : n.toNat < 2 ^ (7 * j)) (g : Nat) :
    ∃ m, wire_Reader_Num_l0 (10 - j + 1) n (j : Int) (enc (g + 1) v ++ rest) = some (.inl (m, rest)) ∧ m.toNat = n.toNat + v * 2 ^ (7 * j) := by
  have hc : (UInt8.ofNat v).toNat = v := by rw [UInt8.toNat_ofNat']; omega
  have h9 : j = 9 → v ≤ 1 := fun e => by
    subst e
    have : (2 : Nat) ^ (64 - 7 * 9) = 2 := by decide
    omega
  have hb : ((((j : Int) == 9) && decide (1 < UInt8.ofNat v)) || (decide (0 < (j : Int)) && (UInt8.ofNat v == 0))) = false := by
    rw [Bool.or_eq_false_iff]
    constructor
    · by_cases e : j = 9
      · have : ¬ (1 < UInt8.ofNat v) := by
          rw [UInt8.lt_iff_toNat_lt, hc]
          have e0 : (1 : UInt8).toNat = 1 := by decide
          have := h9 e
          omega
        simp [this]
      · have h1 : ((j : Int) == 9) = false := by simp; omega
        rw [h1]; rfl
    · by_cases e : 0 < j
      · have h2 : (UInt8.ofNat v == 0) = false := by
          rw [beq_eq_false_iff_ne]
          intro h
          have := congrArg UInt8.toNat h
          rw [hc] at this
          have e0 : (0 : UInt8).toNat = 0 := by decide
          have := hp e
          omega
        rw [h2, Bool.and_false]
      · have h1 : decide (0 < (j : Int)) = false := by simp; omega
        rw [h1]; rfl
  have e : enc (g + 1) v ++ rest = UInt8.ofNat v :: rest := by
    unfold enc
    rw [if_pos h128]; rfl
  obtain ⟨v1, v2⟩ := digit_val n (UInt64.ofNat (2 ^ (7 * j))) (UInt8.ofNat v) j hj hn (unit_of j hj) (fun h => by rw [hc]; exact h9 h)
  rw [hc, Nat.mod_eq_of_lt h128] at v2
  have hlt : decide (UInt8.ofNat v < 128) = true := by
    rw [decide_eq_true_iff, UInt8.lt_iff_toNat_lt, hc]
    have e0 : (128 : UInt8).toNat = 128 := by decide
    omega
  rw [e, one_round (10 - j) j n _ _ (by omega) hb, if_pos hlt, v1]
  exact ⟨_, rfl, v2⟩

theorem read_loop : ∀ (g j v : Nat) (n : UInt64) (rest : Str), j ≤ 9 → v < 2 ^ (64 - 7 * j) → (0 < j → 0 < v) → v < 128 ^ (g + 1) → n.toNat < 2 ^ (7 * j) →
    ∃ m, wire_Reader_Num_l0 (10 - j + 1) n (j : Int) (enc (g + 1) v ++ rest) = some (.inl (m, rest)) ∧ m.toNat = n.toNat + v * 2 ^ (7 * j) := by
  intro g
  induction g with
  | zero =>
    intro j v n rest hj hv hp hg hn
    have h128 : v < 128 := by simpa using hg
    exact read_last j v n rest hj hv hp h128 hn 0
  | succ g ih =>
    intro j v n rest hj hv hp hg hn
    by_cases h128 : v < 128
    · exact read_last j v n rest hj hv hp h128 hn (g + 1)
    · have hj9 : j + 1 ≤ 9 := by
        rcases Nat.lt_or_ge j 9 with h | h
        · exact h
        · obtain rfl : j = 9 := by omega
          have : (2 : Nat) ^ (64 - 7 * 9) = 2 := by decide
          omega
      have hc : (UInt8.ofNat (v % 128 + 128)).toNat = v % 128 + 128 := by rw [UInt8.toNat_ofNat']; omega
      have hb : ((((j : Int) == 9) && decide (1 < UInt8.ofNat (v % 128 + 128))) || (decide (0 < (j : Int)) && (UInt8.ofNat (v % 128 + 128) == 0))) = false := by
        have h1 : ((j : Int) == 9) = false := by simp; omega
        have h2 : (UInt8.ofNat (v % 128 + 128) == 0) = false := by
          rw [beq_eq_false_iff_ne]
          intro h
          have := congrArg UInt8.toNat h
          rw [hc] at this
          have e0 : (0 : UInt8).toNat = 0 := by decide
          omega
        rw [h1, h2]; simp
      have e : enc (g + 1 + 1) v ++ rest = UInt8.ofNat (v % 128 + 128) :: (enc (g + 1) (v / 128) ++ rest) := by
        conv => lhs; unfold enc
        rw [if_neg h128]; rfl
      have ek : 10 - j = 10 - (j + 1) + 1 := by omega
      obtain ⟨v1, v2⟩ := digit_val n (UInt64.ofNat (2 ^ (7 * j))) (UInt8.ofNat (v % 128 + 128)) j hj hn (unit_of j hj) (fun h => absurd h (by omega))
      rw [hc] at v2
      have hmod : (v % 128 + 128) % 128 = v % 128 := by omega
      rw [hmod] at v2
      have hlt : ¬ decide (UInt8.ofNat (v % 128 + 128) < 128) = true := by
        rw [decide_eq_true_iff, UInt8.lt_iff_toNat_lt, hc]
        have e0 : (128 : UInt8).toNat = 128 := by decide
        omega
      rw [e, one_round (10 - j) j n _ _ (by omega) hb, if_neg hlt, v1]
      have hn' := acc_next n.toNat (v % 128) j hn (Nat.mod_lt _ (by decide))
      rw [← v2] at hn'
      have hpow := pow_split j hj9
      have hdiv : v / 128 < 2 ^ (64 - 7 * (j + 1)) := Nat.div_lt_of_lt_mul (by rw [← hpow]; exact hv)
      have hg' : v / 128 < 128 ^ (g + 1) := Nat.div_lt_of_lt_mul (by rw [Nat.mul_comm, ← Nat.pow_succ]; exact hg)
      obtain ⟨m, h1, h2⟩ := ih (j + 1) (v / 128) _ rest hj9 hdiv (fun _ => by omega) hg' hn'
      rw [ek]
      refine ⟨m, h1, ?_⟩
      rw [h2, v2]
      have e2 : 2 ^ (7 * (j + 1)) = 2 ^ (7 * j) * 128 := by rw [Nat.mul_add, Nat.pow_add]
      rw [e2, Nat.add_assoc]
      congr 1
      have hv' := Nat.div_add_mod v 128
      generalize 2 ^ (7 * j) = p
      calc v % 128 * p + v / 128 * (p * 128) = (128 * (v / 128) + v % 128) * p := by rw [Nat.add_mul, Nat.mul_comm p 128, ← Nat.mul_assoc, Nat.mul_comm (v / 128) 128, Nat.add_comm]
        _ = v * p := by rw [hv']

theorem num_back (n top : UInt64) (rest : Str) (h : n ≤ top) : wire_Reader_Num ⟨enc 11 n.toNat ++ rest⟩ top = some (.inl (n, ⟨rest⟩)) := by
  have hn : n.toNat < 2 ^ 64 := n.toNat_lt
  obtain ⟨m, h1, h2⟩ := read_loop 10 0 n.toNat 0 rest (by omega) hn (by omega) (Nat.lt_of_lt_of_le hn (by decide)) (by decide)
  have e : m = n := by
    apply UInt64.toNat_inj.1
    have e0 : (0 : UInt64).toNat = 0 := by decide
    rw [h2, e0]; simp
  subst e
  have h1' : wire_Reader_Num_l0 11 0 0 (enc 11 m.toNat ++ rest) = some (.inl (m, rest)) := h1
  unfold wire_Reader_Num
  dsimp only
  rw [h1', Option.bind_some]
  dsimp only
  rw [if_neg]
  rw [decide_eq_true_eq, UInt64.lt_iff_toNat_lt]
  have := UInt64.le_iff_toNat_le.1 h
  omega
theorem bytes_back (a rest : Str) (k : Int) (hk : k = (a.length : Int)) : wire_Reader_Bytes ⟨a ++ rest⟩ k = some (.inl (a, ⟨rest⟩)) := by
  subst hk
  have e1 : (decide ((a.length : Int) < 0) || decide (((a ++ rest).length : Int) < (a.length : Int))) = false := by simp; omega
  unfold wire_Reader_Bytes
  simp only [e1, Bool.false_eq_true, if_false, Option.bind_some]
  rw [sl_lo (by omega) (by simp; omega), sl_hi (by omega) (by simp; omega)]
  simp
theorem must_t (s : wire_Reader) : wire_Reader_Must s true = .inl () := by unfold wire_Reader_Must; rfl
theorem flag_back (b : Bool) (rest : Str) : wire_Reader_Flag ⟨(if b then 1 else 0) :: rest⟩ = some (.inl (b, ⟨rest⟩)) := by
  unfold wire_Reader_Flag
  rw [one_cons, Option.bind_some]
  cases b <;> rfl
end Go.Proofs.YtlahbmoebbflbaaGreat.Pure

namespace Go.Proofs.YtlahbmoebbflbaaGreat.Pure
open Go Go.Proofs.YtlahbmoebbflbaaGreat.Hw Go.Proofs.YtlahbmoebbflbaaGreat

/-! a sketch that was written is read as it was -/
theorem le15_loop (ra : Str × wire_Reader) (y : List UInt8) (hy : ∀ x ∈ y, x ≤ 15) (hl : y.length ≤ 4096) : ∀ (f k : Nat), f = y.length - k + 1 → k ≤ y.length → sketch_Take_l2 ra y f (k : Int) = some (.inl ()) := by
  intro f
  induction f with
  | zero => intro k h; omega
  | succ f ih =>
    intro k hf hk
    unfold sketch_Take_l2
    by_cases h : k < y.length
    · have ei : i64 ((k : Int) + 1) = ((k + 1 : Nat) : Int) := by rw [i64_id] <;> omega
      rw [if_pos (by rw [decide_eq_true_eq]; omega), gN h, Option.bind_some, decide_eq_true (hy _ (List.getElem_mem h)), must_t, ei]
      exact ih (k + 1) (by omega) (by omega)
    · rw [if_neg (by rw [decide_eq_true_eq]; omega)]
theorem take_row (ra2 : UInt64 × wire_Reader) (w : Nat) (hw : i64 (ra2.1.toNat : Int) = (w : Int)) (hw2 : w ≤ 4096) (k : Nat) (s : Int) (hs : s < 4) (c : List (List UInt8)) (y r : List UInt8) (rest : Str) (hg : gi c s = some y)
    (hr : r.length = w) (hx : ∀ x ∈ r, x ≤ 15) : sketch_Take_l1 ra2 (k + 1) s c (r ++ rest) = sketch_Take_l1 ra2 k (i64 (s + 1)) (ls c s r) rest := by
  have L : sketch_Take_l2 (r, ⟨rest⟩) r (((r.length : Int) - 0).toNat + 1) 0 = some (.inl ()) := le15_loop _ r hx (by omega) _ 0 (by omega) (by omega)
  conv => lhs; unfold sketch_Take_l1
  rw [if_pos (by rw [decide_eq_true_eq]; exact hs), bytes_back r rest _ (by rw [hw, hr]), Option.bind_some]
  dsimp only [sm]
  rw [if_pos (by simp [maxLen]; omega), hg, Option.bind_some, gi_ls hg, Option.bind_some, L, Option.bind_some]
  dsimp only
  rw [Option.bind_some]
theorem take_door (x : sketch_Sketch) (d : List Bool) (w : Nat) (hx : x.door.length = w) (hd : d.length = w) (hw2 : w ≤ 4096) (rest : Str) : ∀ (f k : Nat) (z : List Bool), f = w - k + 1 → k ≤ w → z.length = w →
    sketch_Take_l0 x f (k : Int) (bits (d.drop k) ++ rest) z = some (.inl (rest, z.take k ++ d.drop k)) := by
  intro f
  induction f with
  | zero => intro k z h; omega
  | succ f ih =>
    intro k z hf hk hz
    unfold sketch_Take_l0
    rw [hx]
    by_cases h : k < w
    · have hkd : k < d.length := by omega
      have hkz : k < z.length := by omega
      have ei : i64 ((k : Int) + 1) = ((k + 1 : Nat) : Int) := by rw [i64_id] <;> omega
      have eb : bits (d.drop k) ++ rest = (if d[k] then 1 else 0) :: (bits (d.drop (k + 1)) ++ rest) := by rw [bits_drop d k hkd]; rfl
      rw [if_pos (by rw [decide_eq_true_eq]; omega), eb, flag_back, Option.bind_some]
      dsimp only [sm]
      rw [gN hkz, Option.bind_some, ei, lsN, ih (k + 1) _ (by omega) (by omega) (by rw [List.length_set]; exact hz), tk_set _ _ _ hkz, List.append_assoc, List.drop_eq_getElem_cons hkd]
      rfl
    · obtain rfl : k = w := by omega
      rw [if_neg (by rw [decide_eq_true_eq]; omega), ← hd, List.drop_length, List.append_nil, List.take_of_length_le (by omega)]
      rfl
theorem toW_nat (n : Nat) (h : n ≤ 1000000) : (toW (n : Int)).toNat = n := by
  unfold toW
  rw [UInt64.toNat_ofNat']; omega
theorem rows_back (w : Nat) (W : UInt64) (R : wire_Reader) (z a b c e : List UInt8) (rest : Str) (h2 : w ≤ 4096) (hi : i64 ((W.toNat : Nat) : Int) = (w : Int)) (ha : a.length = w) (hb : b.length = w) (hc : c.length = w) (he : e.length = w)
    (xa : ∀ x ∈ a, x ≤ 15) (xb : ∀ x ∈ b, x ≤ 15) (xc : ∀ x ∈ c, x ≤ 15) (xe : ∀ x ∈ e, x ≤ 15) : sketch_Take_l1 (W, R) 5 0 [z, z, z, z] (a ++ (b ++ (c ++ (e ++ rest)))) = some (.inl ([a, b, c, e], rest)) := by
  have T := fun (k : Nat) (s' : Int) (hs' : s' < 4) (c : List (List UInt8)) (y r : List UInt8) (rest : Str) (hg : gi c s' = some y) (hr : r.length = w) (hx : ∀ x ∈ r, x ≤ 15) =>
    take_row (W, R) w hi h2 k s' hs' c y r rest hg hr hx
  rw [T 4 0 (by decide) _ _ a _ (g0 ..) ha xa, s0, j0, T 3 1 (by decide) _ _ b _ (g1 ..) hb xb, s1, j1, T 2 2 (by decide) _ _ c _ (g2 ..) hc xc, s2, j2, T 1 3 (by decide) _ _ e _ (g3 ..) he xe, s3, j3]
  unfold sketch_Take_l1
  rw [if_neg (by decide)]
theorem sm_inl {α β γ : Type} (a : α) (f : α → γ) (g : β → γ) : sm (Sum.inl a : α ⊕ β) f g = f a := rfl
theorem take_all (w : Nat) (T : UInt64) (P Q R : UInt64 × wire_Reader) (rows : List (List UInt8)) (d : List Bool) (Z : sketch_Sketch) (r0 st rest : Str) (hw : (1 : Int) ≤ (w : Int)) (hW : i64 ((P.1.toNat : Nat) : Int) = (w : Int)) (hT : toW (i64 (10 * (w : Int))) = T)
    (x1 : wire_Reader_Num ⟨r0⟩ 4096 = some (.inl P)) (x2 : wire_Reader_Num P.2 18446744073709551615 = some (.inl Q)) (x3 : wire_Reader_Num Q.2 (T - 1) = some (.inl R))
    (hn : sketch_New (w : Int) Q.1 = some (some Z, 0)) (K : sketch_Take_l1 P 5 0 Z.rows R.2.s = some (.inl (rows, st)))
    (D : sketch_Take_l0 Z (((Z.door.length : Int) - 0).toNat + 1) 0 st Z.door = some (.inl (rest, d))) : sketch_Take ⟨r0⟩ = some (.inl (some (⟨Z.wide, Z.seed, rows, d, i64 ((R.1.toNat : Nat) : Int)⟩ : sketch_Sketch), ⟨rest⟩)) := by
  unfold sketch_Take
  rw [x1, Option.bind_some, sm_inl, hW, decide_eq_true hw, must_t, lt_eq, sm_inl, x2, Option.bind_some, sm_inl, hn, Option.bind_some, hT, x3, Option.bind_some, sm_inl, om_some, K, Option.bind_some]
  dsimp only
  rw [D, Option.bind_some]
theorem take_core (w : Nat) (seed W N T : UInt64) (rest : Str) (s : Sk) (h1 : 1 ≤ w) (h2 : w ≤ 4096) (hs : s.ok w) (hW : W.toNat = w) (hN : N.toNat = s.n) (hT : T.toNat = 10 * w) (eT : toW ((10 * w : Nat) : Int) = T) :
    sketch_Take ⟨enc 11 W.toNat ++ (enc 11 seed.toNat ++ (enc 11 N.toNat ++ (s.a ++ (s.b ++ (s.c ++ (s.e ++ (bits s.d ++ rest)))))))⟩ = some (.inl (some (s.C w seed), ⟨rest⟩)) := by
  have hn := hs.hn
  have ew : i64 ((w : Nat) : Int) = (w : Int) := i64_id (by omega) (by omega)
  have en : i64 ((s.n : Nat) : Int) = (s.n : Int) := i64_id (by omega) (by omega)
  have et : i64 (10 * (w : Int)) = ((10 * w : Nat) : Int) := by rw [i64_id (by omega) (by omega)]; omega
  have c4096 : (4096 : UInt64).toNat = 4096 := by decide
  have c1 : (1 : UInt64).toNat = 1 := by decide
  have cm : (18446744073709551615 : UInt64).toNat = 18446744073709551615 := by decide
  have b1 : W ≤ 4096 := by rw [UInt64.le_iff_toNat_le, hW, c4096]; exact h2
  have b2 : seed ≤ 18446744073709551615 := by rw [UInt64.le_iff_toNat_le, cm]; have := seed.toNat_lt; omega
  have b3 : N ≤ T - 1 := by
    rw [UInt64.le_iff_toNat_le, UInt64.toNat_sub_of_le _ _ (by rw [UInt64.le_iff_toNat_le, hT, c1]; omega), hT, hN, c1]; omega
  have x1 := num_back W 4096 (enc 11 seed.toNat ++ (enc 11 N.toNat ++ (s.a ++ (s.b ++ (s.c ++ (s.e ++ (bits s.d ++ rest))))))) b1
  have x2 := num_back seed 18446744073709551615 (enc 11 N.toNat ++ (s.a ++ (s.b ++ (s.c ++ (s.e ++ (bits s.d ++ rest)))))) b2
  have x3 := num_back N (T - 1) (s.a ++ (s.b ++ (s.c ++ (s.e ++ (bits s.d ++ rest))))) b3
  have K := rows_back w W ⟨enc 11 seed.toNat ++ (enc 11 N.toNat ++ (s.a ++ (s.b ++ (s.c ++ (s.e ++ (bits s.d ++ rest))))))⟩ (List.replicate w 0) s.a s.b s.c s.e (bits s.d ++ rest) h2 (by rw [hW, ew]) hs.ha hs.hb hs.hc hs.he hs.xa hs.xb hs.xc hs.xe
  have D := take_door (SK w seed (List.replicate w 0) (List.replicate w 0) (List.replicate w 0) (List.replicate w 0) (List.replicate w false) 0) s.d w (by simp) hs.hd h2 rest (((w : Int) - 0).toNat + 1) 0 (List.replicate w false) (by omega) (by omega) (by simp)
  rw [List.drop_zero, List.take_zero, List.nil_append] at D
  have el : (List.replicate w false).length = w := by simp
  generalize hZ : SK w seed (List.replicate w 0) (List.replicate w 0) (List.replicate w 0) (List.replicate w 0) (List.replicate w false) 0 = Z at D
  have hn1 : sketch_New (w : Int) seed = some (some Z, 0) := by rw [← hZ]; exact new_c w seed h1 h2
  have z1 : Z.rows = [List.replicate w 0, List.replicate w 0, List.replicate w 0, List.replicate w 0] := by rw [← hZ]
  have z2 : Z.door = List.replicate w false := by rw [← hZ]
  have z3 : Z.wide = (w : Int) := by rw [← hZ]
  have z4 : Z.seed = seed := by rw [← hZ]
  have D' : sketch_Take_l0 Z (((w : Int) - 0).toNat + 1) 0 (bits s.d ++ rest) (List.replicate w false) = some (.inl (rest, s.d)) := D
  rw [take_all w T (W, ⟨_⟩) (seed, ⟨_⟩) (N, ⟨_⟩) [s.a, s.b, s.c, s.e] s.d Z _ (bits s.d ++ rest) rest (by omega) (by dsimp only; rw [hW, ew]) (by rw [et, eT]) x1 x2 x3 hn1 (by rw [z1]; exact K) (by rw [z2, el]; exact D'), z3, z4]
  dsimp only
  rw [hN, en]
theorem take_back (w : Nat) (seed : UInt64) (s : Sk) (rest : Str) (h1 : 1 ≤ w) (h2 : w ≤ 4096) (hs : s.ok w) : sketch_Take ⟨s.bytes w seed ++ rest⟩ = some (.inl (some (s.C w seed), ⟨rest⟩)) := by
  have hn := hs.hn
  have hW := toW_nat w (by omega)
  have hN := toW_nat s.n (by omega)
  have hT := toW_nat (10 * w) (by omega)
  unfold Sk.bytes
  generalize toW (w : Int) = W at hW ⊢
  generalize toW (s.n : Int) = N at hN ⊢
  generalize hE : toW ((10 * w : Nat) : Int) = T at hT
  have h := take_core w seed W N T rest s h1 h2 hs hW hN hT hE
  rw [← h]
  simp only [List.append_assoc]
end Go.Proofs.YtlahbmoebbflbaaGreat.Pure

namespace Go.Proofs.YtlahbmoebbflbaaGreat.Pure
open Go Go.Proofs.YtlahbmoebbflbaaGreat.Hw
theorem toW_len (n : Nat) (h : n ≤ 100000) : (toW (n : Int)).toNat = n := by
  unfold toW
  rw [UInt64.toNat_ofNat']
  omega
theorem text_bytes (u : Str) (h : u.length ≤ 100000) : wire_Text u = some (enc 11 u.length ++ u) ∧ hawthornref03_Text u = some (enc 11 u.length ++ u) := by
  obtain ⟨e1, e2⟩ := num_enc (toW (u.length : Int))
  rw [toW_len _ h] at e1 e2
  have hl := enc_len 11 u.length
  have hm : (enc 11 u.length).length + u.length ≤ maxS := by unfold maxS; omega
  unfold wire_Text hawthornref03_Text
  rw [e1, e2, Option.bind_some, if_pos hm]
  exact ⟨rfl, rfl⟩
theorem bytes_ok (u rest : Str) (q : Int) (e : q = (u.length : Int)) : wire_Reader_Bytes ⟨u ++ rest⟩ q = some (.inl (u, ⟨rest⟩)) := by
  subst e
  unfold wire_Reader_Bytes
  dsimp only
  have e1 : (decide ((u.length : Int) < 0) || decide (((u ++ rest).length : Int) < (u.length : Int))) = false := by simp; omega
  rw [e1, if_neg (by decide), Option.bind_some]
  dsimp only
  rw [sl_lo (by omega) (by simp; omega), sl_hi (by omega) (by simp; omega), Option.bind_some, Option.bind_some]
  simp
theorem then_bytes (u rest : Str) (q : Int) (e : q = (u.length : Int)) : ((wire_Reader_Bytes ⟨u ++ rest⟩ q).bind fun r6 => sm r6 (fun (ra8 : Str × wire_Reader) => some (Sum.inl (ra8.1, ra8.2))) fun ((rn9, ro10) : Int × wire_Reader) => some (Sum.inr (rn9, ro10))) = some (Sum.inl (u, ⟨rest⟩)) := by
  rw [bytes_ok u rest q e, Option.bind_some]
  rfl
theorem text_gen2 (w : UInt64 → Int) (s u rest : Str) (p x : UInt64) (hn : wire_Reader_Num ⟨s⟩ p = some (.inl (x, ⟨u ++ rest⟩))) (hw : w x = (u.length : Int)) :
    ((wire_Reader_Num ⟨s⟩ p).bind fun r0 => sm r0 (fun (ra2 : UInt64 × wire_Reader) => (wire_Reader_Bytes ra2.2 (w ra2.1)).bind fun r6 => sm r6 (fun (ra8 : Str × wire_Reader) => some (Sum.inl (ra8.1, ra8.2))) fun ((rn9, ro10) : Int × wire_Reader) => some (Sum.inr (rn9, ro10))) fun ((rn3, ro4) : Int × wire_Reader) => some (Sum.inr (rn3, ro4))) = some (.inl (u, ⟨rest⟩)) := by
  rw [hn, Option.bind_some]
  exact then_bytes u rest (w x) hw
theorem text_back (u : Str) (rest : Str) (top : Int) (h : u.length ≤ 100000) (ht : (u.length : Int) ≤ top) (ht2 : top ≤ 100000) : wire_Reader_Text ⟨enc 11 u.length ++ (u ++ rest)⟩ top = some (.inl (u, ⟨rest⟩)) := by
  have hn := num_back (toW (u.length : Int)) (toW top) (u ++ rest) (by
    obtain ⟨t, rfl⟩ : ∃ t : Nat, top = (t : Int) := ⟨top.toNat, by omega⟩
    rw [UInt64.le_iff_toNat_le, toW_len _ h, toW_len _ (by omega)]
    omega)
  rw [toW_len _ h] at hn
  unfold wire_Reader_Text
  rw [if_neg (by omega)]
  exact text_gen2 (fun x => i64 (x.toNat : Int)) _ u rest _ _ hn (by
    show i64 ((toW (u.length : Int)).toNat : Int) = _
    rw [toW_len _ h]
    exact i64_id (by omega) (by omega))

end Go.Proofs.YtlahbmoebbflbaaGreat.Pure

namespace Go.Proofs.YtlahbmoebbflbaaGreat.Pure
open Go Go.Proofs.YtlahbmoebbflbaaGreat.Hw
/-! The bytes of lists of keys: the code's and the document's. -/
def tb (u : Str) : Str := enc 11 u.length ++ u
def kb (l : List Str) : Str := l.flatMap tb
def lb (l : List Str) : Str := enc 11 l.length ++ kb l
def rb (k m : Nat) (L : List (List Str)) : Str := (enc 11 k ++ enc 11 m) ++ L.flatMap lb
theorem kb_le : ∀ {l : List Str}, (∀ u ∈ l, u.length ≤ 64) → (kb l).length ≤ 75 * l.length
  | [], _ => by simp [kb]
  | u :: l, h => by
    have h1 := kb_le (l := l) fun v hv => h v (List.mem_cons_of_mem _ hv)
    have h2 := h u (List.mem_cons_self ..)
    have h3 := enc_len 11 u.length
    have : kb (u :: l) = tb u ++ kb l := rfl
    rw [this, List.length_append]
    unfold tb
    rw [List.length_append, List.length_cons]; omega
theorem lb_le : ∀ {L : List (List Str)}, (∀ u ∈ L.flatten, u.length ≤ 64) → (L.flatMap lb).length ≤ 75 * L.flatten.length + 11 * L.length
  | [], _ => by simp
  | l :: L, h => by
    have h1 := lb_le (L := L) fun v hv => h v (by simp only [List.flatten_cons, List.mem_append]; exact .inr hv)
    have h2 := kb_le (l := l) fun v hv => h v (by simp only [List.flatten_cons, List.mem_append]; exact .inl hv)
    have h3 := enc_len 11 l.length
    simp only [List.flatMap_cons, List.flatten_cons, List.length_append, List.length_cons]
    unfold lb
    rw [List.length_append]
    unfold lb at h1
    omega
theorem txts_ok : ∀ (l : List Str) (c : Str), (∀ u ∈ l, u.length ≤ 64) → c.length + (kb l).length ≤ maxS → ring_txts l c = some (c ++ kb l)
  | [], c, _, _ => by simp [ring_txts, kb]
  | u :: l, c, h, hb => by
    have e : kb (u :: l) = tb u ++ kb l := rfl
    rw [e, List.length_append] at hb
    rw [ring_txts, (text_bytes u (by have := h u (List.mem_cons_self ..); omega)).1, Option.bind_some]
    change (if c.length + (tb u).length ≤ maxS then ring_txts l (c ++ tb u) else none) = _
    rw [if_pos (by omega), txts_ok l _ (fun v hv => h v (List.mem_cons_of_mem _ hv)) (by rw [List.length_append]; omega), e, List.append_assoc]
theorem num_c (j : Nat) (h : j ≤ 100000) : wire_Num (toW (j : Int)) = some (enc 11 j) := by have := (num_enc (toW (j : Int))).1; rwa [toW_len _ h] at this
theorem num_r (j : Nat) (h : j ≤ 100000) : hawthornref03_Num (toW (j : Int)) = some (enc 11 j) := by have := (num_enc (toW (j : Int))).2; rwa [toW_len _ h] at this
section
variable {k m : Nat} {r : ring_Rings} {L : List (List Str)}
theorem RR.lists (h : RR k m r L) : r.lists = (k : Int) := by obtain ⟨P, f, h, rfl⟩ := h; exact h.hl
theorem RR.slots (h : RR k m r L) : r.slots.length = k + m := by obtain ⟨P, f, h, rfl⟩ := h; exact h.co.len
theorem RR.many (h : RR k m r L) {i : Nat} {l : List Str} (hl : L[i]? = some l) : gi r.many (i : Int) = some (l.length : Int) := by
  obtain ⟨P, f, h, rfl⟩ := h
  obtain ⟨Q, hQ, rfl⟩ := keys_get hl
  rw [h.co.mn, lens_get hQ, List.length_map]
theorem RR.mem (h : RR k m r L) {i : Nat} {l : List Str} (hl : L[i]? = some l) : ∀ u ∈ l, u.length ≤ 64 := fun u hu => h.kl u (List.mem_flatten.2 ⟨l, List.mem_of_getElem? hl, hu⟩)
theorem RR.ll (h : RR k m r L) {i : Nat} {l : List Str} (hl : L[i]? = some l) : l.length ≤ m := by
  have h1 := h.tot
  obtain ⟨U, V, rfl, _⟩ := dec hl
  simp at h1
  omega
theorem exp_l0 (h : RR k m r L) (hk : k ≤ 8) (hm : m ≤ 4096) : ∀ (f i : Nat) (c : Str), k - i < f → i ≤ k → c.length + ((L.drop i).flatMap lb).length ≤ maxS →
    ring_Rings_Export_l0 r f (i : Int) c = some (c ++ (L.drop i).flatMap lb)
  | 0, i, c, hf, _, _ => by omega
  | f + 1, i, c, hf, hi, hc => by
    have hL := h.len
    unfold ring_Rings_Export_l0
    rw [h.lists]
    rcases Nat.lt_or_ge i k with h1 | h1
    · have hl : L[i]? = some L[i] := List.getElem?_eq_getElem (by omega)
      have hll := h.ll hl
      rw [List.drop_eq_getElem_cons (by omega), List.flatMap_cons, List.length_append] at hc
      have e : (lb L[i]).length = (enc 11 L[i].length).length + (kb L[i]).length := by unfold lb; rw [List.length_append]
      rw [if_pos (by simp; exact h1), h.many hl, Option.bind_some, num_c _ (by omega), Option.bind_some, if_pos (by omega), h.Keys hl, Option.bind_some, txts_ok _ _ (h.mem hl) (by rw [List.length_append]; omega), Option.bind_some, i64n i (by omega),
        exp_l0 h hk hm f (i + 1) _ (by omega) (by omega) (by rw [List.length_append, List.length_append]; omega), List.drop_eq_getElem_cons (i := i) (by omega), List.flatMap_cons]
      simp only [lb, List.append_assoc]
    · rw [if_neg (by simp; omega), List.drop_eq_nil_of_le (by omega)]; simp
theorem RR.size (h : RR k m r L) (hk : k ≤ 8) (hm : m ≤ 4096) : (L.flatMap lb).length ≤ 307300 := by
  have := lb_le h.kl
  have := h.tot
  have := h.len
  omega
theorem RR.Export (h : RR k m r L) (hk : k ≤ 8) (hm : m ≤ 4096) : ring_Rings_Export r = some (rb k m L) := by
  have hs := h.size hk hm
  have e1 := enc_len 11 k
  have e2 := enc_len 11 m
  have hM : 400000 ≤ maxS := by decide
  unfold ring_Rings_Export
  rw [h.lists, h.slots, num_c k (by omega), Option.bind_some, i64s _ (by omega) (by omega), show (((k + m : Nat) : Int) - (k : Int)) = (m : Int) by omega, num_c m (by omega), Option.bind_some, if_pos (by omega)]
  have := exp_l0 h hk hm (((k : Int) - 0).toNat + 1) 0 (enc 11 k ++ enc 11 m) (by omega) (by omega) (by rw [List.length_append, List.drop_zero]; omega)
  rw [show ((0 : Nat) : Int) = 0 from rfl] at this
  rw [this]; rfl
end
section
variable {L : List (List Str)}
theorem put_l1 (l : List Str) (hm : l.length ≤ 100000) (hu : ∀ u ∈ l, u.length ≤ 64) : ∀ (f j : Nat) (c : Str), l.length - j < f → j ≤ l.length → c.length + (kb (l.drop j)).length ≤ maxS →
    hawthornref06_Rings_Put_l1 l f c (j : Int) = some (c ++ kb (l.drop j))
  | 0, j, c, hf, _, _ => by omega
  | f + 1, j, c, hf, hj, hc => by
    unfold hawthornref06_Rings_Put_l1
    rcases Nat.lt_or_ge j l.length with h1 | h1
    · have e : kb (l.drop j) = tb l[j] ++ kb (l.drop (j + 1)) := by rw [List.drop_eq_getElem_cons h1]; rfl
      rw [e, List.length_append] at hc
      rw [if_pos (by simp; exact h1), giC, List.getElem?_eq_getElem h1, Option.bind_some, (text_bytes l[j] (by have := hu _ (List.getElem_mem h1); omega)).2, Option.bind_some]
      change (if c.length + (tb l[j]).length ≤ maxS then hawthornref06_Rings_Put_l1 l f (c ++ tb l[j]) (i64 ((j : Int) + 1)) else none) = _
      rw [if_pos (by omega), i64n j (by omega), put_l1 l hm hu f (j + 1) _ (by omega) (by omega) (by rw [List.length_append]; omega), e, List.append_assoc]
    · rw [if_neg (by simp; omega), List.drop_eq_nil_of_le h1]; simp [kb]
theorem put_l0 (p : Int) (hL : L.length ≤ 1000) (hb : ∀ l ∈ L, l.length ≤ 100000) (hu : ∀ u ∈ L.flatten, u.length ≤ 64) : ∀ (f i : Nat) (c : Str), L.length - i < f → i ≤ L.length → c.length + ((L.drop i).flatMap lb).length ≤ maxS →
    hawthornref06_Rings_Put_l0 ⟨L, p⟩ f c (i : Int) = some (c ++ (L.drop i).flatMap lb)
  | 0, i, c, hf, _, _ => by omega
  | f + 1, i, c, hf, hi, hc => by
    unfold hawthornref06_Rings_Put_l0
    rcases Nat.lt_or_ge i L.length with h1 | h1
    · have hm := List.getElem_mem h1
      rw [List.drop_eq_getElem_cons h1, List.flatMap_cons, List.length_append] at hc
      have e : (lb L[i]).length = (enc 11 L[i].length).length + (kb L[i]).length := by unfold lb; rw [List.length_append]
      have hp := put_l1 L[i] (hb _ hm) (fun u hv => hu u (List.mem_flatten.2 ⟨_, hm, hv⟩)) (((L[i].length : Int) - 0).toNat + 1) 0 (c ++ enc 11 L[i].length) (by omega) (by omega) (by rw [List.length_append, List.drop_zero]; omega)
      rw [show ((0 : Nat) : Int) = 0 from rfl, List.drop_zero] at hp
      rw [if_pos (by simp; exact h1), show gi L (i : Int) = some L[i] by rw [giC]; exact List.getElem?_eq_getElem h1, Option.bind_some, num_r _ (hb _ hm), Option.bind_some, if_pos (by omega), hp, Option.bind_some, Option.bind_some, i64n i (by omega),
        put_l0 p hL hb hu f (i + 1) _ (by omega) (by omega) (by rw [List.length_append, List.length_append]; omega), List.drop_eq_getElem_cons h1, List.flatMap_cons]
      simp only [lb, List.append_assoc]
    · rw [if_neg (by simp; omega), List.drop_eq_nil_of_le h1]; simp
theorem rPut (m : Nat) (hm : m ≤ 4096) (hL : L.length ≤ 8) (ht : L.flatten.length ≤ m) (hu : ∀ u ∈ L.flatten, u.length ≤ 64) : hawthornref06_Rings_Put ⟨L, (m : Int)⟩ = some (rb L.length m L) := by
  have hs := lb_le hu
  have e1 := enc_len 11 L.length
  have e2 := enc_len 11 m
  have hM : 400000 ≤ maxS := by decide
  have hb : ∀ l ∈ L, l.length ≤ 100000 := fun l hl => by
    obtain ⟨i, hi⟩ := List.mem_iff_getElem?.1 hl
    obtain ⟨U, V, rfl, _⟩ := dec hi
    simp at ht; omega
  unfold hawthornref06_Rings_Put
  dsimp only
  rw [num_r _ (by omega), Option.bind_some, num_r m (by omega), Option.bind_some, if_pos (by omega)]
  have := put_l0 (m : Int) (by omega) hb hu (((L.length : Int) - 0).toNat + 1) 0 (enc 11 L.length ++ enc 11 m) (by omega) (by omega) (by rw [List.length_append, List.drop_zero]; omega)
  rw [show ((0 : Nat) : Int) = 0 from rfl] at this
  rw [this]; rfl
end
end Go.Proofs.YtlahbmoebbflbaaGreat.Pure

namespace Go.Proofs.YtlahbmoebbflbaaGreat.Pure
open Go Go.Proofs.YtlahbmoebbflbaaGreat.Hw
/-! Lists that were written are read as they were. -/
theorem tk_l2 : ∀ (l c : List Str) (f : Nat) (n : UInt64) (rest : Str), (∀ u ∈ l, u.length ≤ 64) → n.toNat = l.length → l.length < f → c.length + l.length ≤ 100000 →
    ring_Take_l2 f c n (kb l ++ rest) = some (.inl (c ++ l, rest))
  | [], c, 0, n, rest, _, _, h, _ => by simp at h
  | [], c, f + 1, n, rest, _, hn, _, _ => by
    have : ¬ (0 : UInt64) < n := by rw [UInt64.lt_iff_toNat_lt, hn]; simp
    unfold ring_Take_l2
    rw [if_neg (by simpa using this)]; simp [kb]
  | u :: l, c, 0, n, rest, _, _, h, _ => by omega
  | u :: l, c, f + 1, n, rest, hu, hn, hf, hc => by
    have h64 := hu u (List.mem_cons_self ..)
    rw [List.length_cons] at hn hf hc
    have h0 : (0 : UInt64) < n := by rw [UInt64.lt_iff_toNat_lt, hn, show (0 : UInt64).toNat = 0 by decide]; omega
    have hn1 : (n - 1).toNat = l.length := by
      rw [UInt64.toNat_sub_of_le _ _ (by rw [UInt64.le_iff_toNat_le, hn, show (1 : UInt64).toNat = 1 by decide]; omega), hn, show (1 : UInt64).toNat = 1 by decide]; omega
    have e : kb (u :: l) ++ rest = enc 11 u.length ++ (u ++ (kb l ++ rest)) := by
      show (tb u ++ kb l) ++ rest = _
      unfold tb; simp only [List.append_assoc]
    unfold ring_Take_l2
    rw [if_pos (by simpa using h0), e, text_back u (kb l ++ rest) 64 (by omega) (by omega) (by omega), Option.bind_some, sm_inl, apd_i 16 c [u] (by omega) (by simp; omega), Option.bind_some,
      tk_l2 l (c ++ [u]) f (n - 1) rest (fun v hv => hu v (List.mem_cons_of_mem _ hv)) hn1 (by omega) (by simp; omega)]
    simp
section
variable {k m : Nat} {r : ring_Rings} {L : List (List Str)}
theorem tk_l1 (U V : List (List Str)) (l : List Str) (st : Str) (hnd : (U ++ l :: V).flatten.Nodup) (ht : (U ++ l :: V).flatten.length ≤ m) (h64 : ∀ u ∈ l, u.length ≤ 64) (hk : U.length < k) (hm : m ≤ 4096) :
    ∀ (f j : Nat) (r : ring_Rings), j < f → j ≤ l.length → RR k m r (U ++ l.drop j :: V) → ∃ r', ring_Take_l1 (l, st) (U.length : Int) f (some r) ((j : Int) - 1) = some (.inl (some r')) ∧ RR k m r' (U ++ l :: V)
  | 0, j, r, hf, _, _ => by omega
  | f + 1, 0, r, hf, hj, hR => ⟨r, by unfold ring_Take_l1; rw [if_neg (by simp)], by simpa using hR⟩
  | f + 1, j + 1, r, hf, hj, hR => by
    have hj' : j < l.length := by omega
    have hsp : l = l.take j ++ l[j] :: l.drop (j + 1) := by rw [← List.drop_eq_getElem_cons hj', List.take_append_drop]
    have hno : l[j] ∉ (U ++ l.drop (j + 1) :: V).flatten := fun hmem => by
      rw [hsp] at hnd
      simp only [List.flatten_append, List.flatten_cons, List.mem_append, List.append_assoc, List.cons_append, List.length_append, List.length_take, List.length_cons] at hmem hnd
      have h1 := List.nodup_append.1 hnd
      have h2 := List.nodup_append.1 h1.2.1
      have h3 := List.nodup_cons.1 h2.2.1
      rcases hmem with hmem | hmem | hmem
      · exact h1.2.2 _ hmem _ (List.mem_append.2 (.inr (List.mem_cons_self ..))) rfl
      · exact h3.1 (List.mem_append.2 (.inl hmem))
      · exact h3.1 (List.mem_append.2 (.inr hmem))
    have hroom : (U ++ l.drop (j + 1) :: V).flatten.length < m := by
      simp only [List.flatten_append, List.flatten_cons, List.length_append, List.length_drop] at ht ⊢
      omega
    obtain ⟨r1, e1, hR1⟩ := hR.front_new hm hno (h64 _ (List.getElem_mem hj')) hroom (j := U.length) hk
    have hs : (U ++ l.drop (j + 1) :: V).set U.length (l[j] :: (U ++ l.drop (j + 1) :: V).getD U.length []) = U ++ l.drop j :: V := by
      rw [List.drop_eq_getElem_cons hj']; simp
    rw [hs] at hR1
    obtain ⟨r', e2, hR2⟩ := tk_l1 U V l st hnd ht h64 hk hm f j r1 (by omega) (by omega) hR1
    refine ⟨r', ?_, hR2⟩
    have hjj : (((j + 1 : Nat) : Int) - 1) = (j : Int) := by omega
    unfold ring_Take_l1
    rw [hjj, if_pos (by simp), show gi (l, st).1 (j : Int) = some l[j] by rw [giC]; exact List.getElem?_eq_getElem hj', Option.bind_some, om_some, hR.in_none hno, Option.bind_some, if_neg (by decide), e1, Option.bind_some, must_t, lt_eq, sm_inl, Option.bind_some]
    dsimp only
    have hjm : j < m := by
      have : l.length ≤ m := by simp only [List.flatten_append, List.flatten_cons, List.length_append] at ht; omega
      omega
    rw [i64s _ (by omega) (by omega)]
    exact e2
theorem tk_l0 (a b : UInt64 × wire_Reader) (ha : i64 (a.1.toNat : Int) = (k : Int)) (hb : i64 (b.1.toNat : Int) = (m : Int)) (hk8 : k ≤ 8) (hm : m ≤ 4096) (rest : Str) :
    ∀ (W U : List (List Str)) (f : Nat) (r : ring_Rings), W.length < f → U.length + W.length = k → RR k m r (U ++ W.map fun _ => []) → (U ++ W).flatten.Nodup → (U ++ W).flatten.length ≤ m → (∀ u ∈ W.flatten, u.length ≤ 64) →
    ∃ r', ring_Take_l0 a b f (some r) (U.length : Int) (W.flatMap lb ++ rest) = some (.inl (some r', rest)) ∧ RR k m r' (U ++ W)
  | W, U, 0, r, hf, _, _, _, _, _ => by omega
  | [], U, f + 1, r, hf, hl, hR, _, _, _ => by
    refine ⟨r, ?_, by simpa using hR⟩
    unfold ring_Take_l0
    rw [ha, if_neg (by simp at hl; simp; omega)]; simp
  | l :: W, U, f + 1, r, hf, hl, hR, hnd, ht, hu => by
    rw [List.length_cons] at hf hl
    have h64 : ∀ u ∈ l, u.length ≤ 64 := fun u h => hu u (by simp only [List.flatten_cons, List.mem_append]; exact .inl h)
    have hV : (W.map fun _ => ([] : List Str)).flatten = [] := by simp
    have hnd' : (U ++ l :: W.map fun _ => ([] : List Str)).flatten.Nodup := by
      simp only [List.flatten_append, List.flatten_cons, hV, List.append_nil] at hnd ⊢
      rw [← List.append_assoc] at hnd
      exact (List.nodup_append.1 hnd).1
    have ht' : (U ++ l :: W.map fun _ => ([] : List Str)).flatten.length ≤ m := by
      simp only [List.flatten_append, List.flatten_cons, hV, List.append_nil, List.length_append] at ht ⊢
      omega
    have hlm : l.length ≤ m := by simp only [List.flatten_append, List.flatten_cons, List.length_append] at ht; omega
    have hn := toW_len l.length (by omega)
    have hR0 : RR k m r (U ++ l.drop l.length :: W.map fun _ => []) := by rw [List.drop_length]; exact hR
    obtain ⟨r1, e1, hR1⟩ := tk_l1 U (W.map fun _ => []) l (W.flatMap lb ++ rest) hnd' ht' h64 (by omega) hm (l.length + 1) l.length r (by omega) (by omega) hR0
    obtain ⟨r', e2, hR2⟩ := tk_l0 a b ha hb hk8 hm rest W (U ++ [l]) f r1 (by omega) (by simp; omega) (by simpa using hR1) (by simpa using hnd) (by simpa using ht) (fun u h => hu u (by simp only [List.flatten_cons, List.mem_append]; exact .inr h))
    refine ⟨r', ?_, by simpa using hR2⟩
    have e : (l :: W).flatMap lb ++ rest = enc 11 l.length ++ (kb l ++ (W.flatMap lb ++ rest)) := by simp only [List.flatMap_cons, lb, List.append_assoc]
    have hB := num_back (toW (l.length : Int)) (toW (m : Int)) (kb l ++ (W.flatMap lb ++ rest)) (by rw [UInt64.le_iff_toNat_le, hn, toW_len m (by omega)]; exact hlm)
    rw [hn] at hB
    generalize toW (l.length : Int) = N at hn hB
    unfold ring_Take_l0
    rw [ha, hb, if_pos (by simp; omega), e, hB, Option.bind_some, sm_inl]
    dsimp only
    rw [tk_l2 l [] (N.toNat + 1) N (W.flatMap lb ++ rest) h64 hn (by omega) (by simp; omega), Option.bind_some]
    dsimp only
    rw [List.nil_append, i64s ((l.length : Int) - 1) (by omega) (by omega), show ((l.length : Int) - 1 + 1).toNat + 1 = l.length + 1 by omega, e1, Option.bind_some]
    dsimp only
    rw [Option.bind_some]
    dsimp only
    rw [i64n _ (by omega)]
    rw [List.length_append, List.length_singleton] at e2
    exact e2
theorem Take_back (h : RR k m r L) (h1 : 1 ≤ k) (hk : k ≤ 8) (hm : m ≤ 4096) (rest : Str) : ∃ r', ring_Take ⟨rb k m L ++ rest⟩ = some (.inl (some r', ⟨rest⟩)) ∧ RR k m r' L := by
  have hL := h.len
  have hK := toW_len k (by omega)
  have hM := toW_len m (by omega)
  obtain ⟨r0, e0, hR0⟩ := new_ok k m h1 hk hm
  have e : rb k m L ++ rest = enc 11 k ++ (enc 11 m ++ (L.flatMap lb ++ rest)) := by unfold rb; simp only [List.append_assoc]
  have b1 := num_back (toW (k : Int)) 8 (enc 11 m ++ (L.flatMap lb ++ rest)) (by rw [UInt64.le_iff_toNat_le, hK, show (8 : UInt64).toNat = 8 by decide]; exact hk)
  have b2 := num_back (toW (m : Int)) 4096 (L.flatMap lb ++ rest) (by rw [UInt64.le_iff_toNat_le, hM, show (4096 : UInt64).toNat = 4096 by decide]; exact hm)
  rw [hK] at b1
  rw [hM] at b2
  have eK : i64 ((k : Nat) : Int) = (k : Int) := i64s _ (by omega) (by omega)
  have eM : i64 ((m : Nat) : Int) = (m : Int) := i64s _ (by omega) (by omega)
  generalize toW (k : Int) = K at hK b1
  generalize toW (m : Int) = M at hM b2
  have eK' : i64 ((K.toNat : Nat) : Int) = (k : Int) := by rw [hK, eK]
  have eM' : i64 ((M.toNat : Nat) : Int) = (m : Int) := by rw [hM, eM]
  have hz : L.map (fun _ => ([] : List Str)) = List.replicate k [] := by
    rw [List.map_const', hL]
  obtain ⟨r', e2, hR2⟩ := tk_l0 (K, ⟨enc 11 m ++ (L.flatMap lb ++ rest)⟩) (M, ⟨L.flatMap lb ++ rest⟩) eK' eM' hk hm rest L [] (((k : Int) - 0).toNat + 1) r0 (by omega) (by simpa using hL) (by rw [List.nil_append, hz]; exact hR0) (by simpa using h.nd) (by have := h.tot; simp only [List.nil_append]; omega) h.kl
  refine ⟨r', ?_, by simpa using hR2⟩
  unfold ring_Take
  rw [e, b1, Option.bind_some, sm_inl, b2, Option.bind_some, sm_inl]
  dsimp only
  rw [eK', eM', e0, Option.bind_some, show ((0 : Int) == 0) = true from rfl, must_t, lt_eq, sm_inl]
  rw [show (([] : List (List Str)).length : Int) = 0 from rfl] at e2
  rw [e2, Option.bind_some]
end
end Go.Proofs.YtlahbmoebbflbaaGreat.Pure

namespace Go.Proofs.YtlahbmoebbflbaaGreat.Pure
open Go Go.Proofs.YtlahbmoebbflbaaGreat.Hw Go.Proofs.YtlahbmoebbflbaaGreat
theorem awake8 : hawthornlaw08_awake = some true := by decide +kernel
theorem few8 (x : Str) : ∃ r, hawthornlaw08_few x = some r ∧ r.length ≤ 80 := by
  unfold hawthornlaw08_few
  by_cases h : 80 < x.length
  · have e : decide ((80 : Int) < (x.length : Int)) = true := by simp; omega
    rw [if_pos e]
    unfold sl
    rw [if_pos (by omega), Option.bind_some]
    exact ⟨_, rfl, by simp; omega⟩
  · have e : ¬ decide ((80 : Int) < (x.length : Int)) = true := by simp; omega
    rw [if_neg e]
    exact ⟨_, rfl, by omega⟩
end Go.Proofs.YtlahbmoebbflbaaGreat.Pure

namespace Go.Proofs.YtlahbmoebbflbaaGreat.Pure
open Go Go.Proofs.YtlahbmoebbflbaaGreat.Hw
/-! W-TinyLFU through its bytes. -/
section
variable {n : Nat} {seed : UInt64} {t : tiny_Tiny} {s : Sk} {x : TL} {k : Str}
def tbytes (n : Nat) (seed : UInt64) (s : Sk) (x : TL) : Str := (enc 11 n ++ s.bytes (wd n) seed) ++ rb 3 (n + 1) x.L
theorem sk_size {w : Nat} (hs : s.ok w) (h2 : w ≤ 4096) : (s.bytes w seed).length ≤ 5 * w + 33 := by
  have e1 := enc_len 11 (toW (w : Int)).toNat
  have e2 := enc_len 11 seed.toNat
  have e3 := enc_len 11 (toW (s.n : Int)).toNat
  unfold Sk.bytes bits
  simp only [List.length_append, List.length_map, hs.ha, hs.hb, hs.hc, hs.he, hs.hd]
  omega
theorem rb_size (h : TR n seed t s x) : (rb 3 (n + 1) x.L).length ≤ 400000 := by
  obtain ⟨r, hr, hR⟩ := h.rg
  have hn := h.n2
  have := hR.size (by omega) (by omega)
  have e1 := enc_len 11 3
  have e2 := enc_len 11 (n + 1)
  unfold rb
  simp only [List.length_append]
  omega
theorem TR.Export (h : TR n seed t s x) : tiny_Tiny_Export t = some (tbytes n seed s x) := by
  obtain ⟨r, hr, hR⟩ := h.rg
  have hn := h.n2
  have e1 := enc_len 11 n
  have e2 := sk_size (seed := seed) h.ok h.w2
  have e3 := rb_size h
  have w2 := h.w2
  have hM : 500000 ≤ maxS := by decide
  unfold tiny_Tiny_Export tbytes
  rw [h.ms, num_c n (by omega), Option.bind_some, h.sk, om_some, Exp_c h.w2 h.ok, Option.bind_some, if_pos (by omega), hr, om_some, hR.Export (by omega) (by omega), Option.bind_some, if_pos (by rw [List.length_append]; omega)]
theorem dPut (h : TR n seed t s x) (hn9 : n ≤ 900) : hawthornref08_Tiny_Put (TD n seed s x) = some (tbytes n seed s x) := by
  obtain ⟨r, hr, hR⟩ := h.rg
  have hn := h.n2
  have e1 := enc_len 11 n
  have e2 := sk_size (seed := seed) h.ok h.w2
  have e3 := rb_size h
  have w2 := h.w2
  have hM : 500000 ≤ maxS := by decide
  have hb := h.bn
  have hp : hawthornref06_Rings_Put ⟨x.L, ((n + 1 : Nat) : Int)⟩ = some (rb 3 (n + 1) x.L) := rPut (L := x.L) (n + 1) (by omega) (by simp) (by rw [fl_all, all_n]; omega) (hR.kl)
  unfold hawthornref08_Tiny_Put tbytes
  rw [num_r n (by omega), Option.bind_some, Put_m h.w2 h.ok, Option.bind_some, if_pos (by omega), hp, Option.bind_some, if_pos (by rw [List.length_append]; omega)]
theorem TR.Import (h : TR n seed t s x) : ∃ t', tiny_Import (tbytes n seed s x) = some (some t', 0) ∧ TR n seed t' s x := by
  obtain ⟨r, hr, hR⟩ := h.rg
  have hn := h.n2
  have hn1 := h.n1
  have hN := toW_len n (by omega)
  obtain ⟨r', e1, hR'⟩ := Take_back hR (by omega) (by omega) (by omega) []
  have e2 := take_back (wd n) seed s (rb 3 (n + 1) x.L ++ []) h.w1 h.w2 h.ok
  have b1 := num_back (toW (n : Int)) 1000 (s.bytes (wd n) seed ++ (rb 3 (n + 1) x.L ++ [])) (by rw [UInt64.le_iff_toNat_le, hN, show (1000 : UInt64).toNat = 1000 by decide]; exact hn)
  have eN : i64 ((n : Nat) : Int) = (n : Int) := i64s _ (by omega) (by omega)
  have e : tbytes n seed s x = enc 11 n ++ (s.bytes (wd n) seed ++ (rb 3 (n + 1) x.L ++ [])) := by unfold tbytes; simp only [List.append_assoc, List.append_nil]
  rw [hN] at b1
  generalize toW (n : Int) = K at hN b1
  have eK : i64 ((K.toNat : Nat) : Int) = (n : Int) := by rw [hN, eN]
  have hT : TR n seed ⟨(n : Int), some (s.C (wd n) seed), some r'⟩ s x := ⟨h.n1, h.n2, rfl, rfl, h.ok, ⟨r', rfl, hR'⟩, h.bb, h.ba, h.bc⟩
  refine ⟨_, ?_, hT⟩
  have hl := hT.Len
  have hfree : ring_Rings_Free r' = (((n + 1) - x.n : Nat) : Int) := by
    have := hR'.tot
    rw [fl_all, all_n] at this
    unfold ring_Rings_Free
    omega
  have hbn := h.bn
  have hw : sketch_Sketch_Wide (s.C (wd n) seed) = (wd n : Int) := rfl
  have hb0 := h.ba
  have hb2 := h.bc
  have T : tiny_Take ⟨tbytes n seed s x⟩ = some (.inl (some ⟨(n : Int), some (s.C (wd n) seed), some r'⟩, ⟨[]⟩)) := by
    unfold tiny_Take
    rw [e, b1, Option.bind_some, sm_inl]
    dsimp only
    rw [eK, decide_eq_true (by omega : (1 : Int) ≤ (n : Int)), must_t, lt_eq, sm_inl, e2, Option.bind_some, sm_inl]
    dsimp only
    rw [om_some, hw, wide_c n hn, show ((wd n : Int) == (wd n : Int)) = true from beq_self_eq_true _, must_t, lt_eq, sm_inl, e1, Option.bind_some, sm_inl]
    dsimp only
    rw [om_some, show ring_Rings_Lists r' = (3 : Int) from hR'.lists, if_pos (by rfl), hl, Option.bind_some, hfree, i64s ((((n + 1) - x.n : Nat) : Int) + (x.n : Int)) (by omega) (by omega), i64s ((n : Int) + 1) (by omega) (by omega),
      if_pos (by rw [beq_iff_eq]; omega), if_pos (by simp; omega), show ring_Rings_Len r' 0 = _ from hR'.Len (i := 0) (l := x.a) rfl, Option.bind_some, parts_c n hn hn1]
    dsimp only
    rw [if_pos (by simp; omega), show ring_Rings_Len r' 2 = _ from hR'.Len (i := 2) (l := x.c) rfl, Option.bind_some, decide_eq_true (by omega : (x.c.length : Int) ≤ (Sf n : Int)), must_t, lt_eq, sm_inl]
  unfold tiny_Import tiny_Import_1
  rw [T, Option.bind_some]
  rfl
end
end Go.Proofs.YtlahbmoebbflbaaGreat.Pure

namespace Go.Proofs.YtlahbmoebbflbaaGreat.Pure
open Go Go.Proofs.YtlahbmoebbflbaaGreat.Hw
/-! The law TinyPlays: step by step both are alike. -/
theorem texts_l0 (l : List Str) (hl : l.length ≤ 100000) : ∀ (f j : Nat), l.length - j < f → j ≤ l.length → hawthornlaw08_texts_l0 l l f (j : Int) = some (.inl ())
  | 0, j, h, _ => by omega
  | f + 1, j, h, hj => by
    unfold hawthornlaw08_texts_l0
    rcases Nat.lt_or_ge j l.length with h1 | h1
    · rw [if_pos (by simp; exact h1), giC, List.getElem?_eq_getElem h1, Option.bind_some, Option.bind_some, if_neg (by simp), i64n j (by omega)]
      exact texts_l0 l hl f (j + 1) (by omega) (by omega)
    · rw [if_neg (by simp; omega)]
theorem texts_eq (l : List Str) (hl : l.length ≤ 100000) : hawthornlaw08_texts l l = some true := by
  unfold hawthornlaw08_texts
  have := texts_l0 l hl (((l.length : Int) - 0).toNat + 1) 0 (by omega) (by omega)
  rw [show ((0 : Nat) : Int) = 0 from rfl] at this
  rw [if_neg (by simp), this]; rfl
section
variable {n : Nat} {seed : UInt64} {t : tiny_Tiny} {s : Sk} {x : TL} {k : Str}
theorem same_ok (h : TR n seed t s x) (hn : n ≤ 900) : hawthornlaw08_same t (TD n seed s x) = some true := by
  have hb := h.bn
  have e : x.n = x.a.length + x.b.length + x.c.length := rfl
  unfold hawthornlaw08_same
  rw [h.Lists, Option.bind_some, show gi x.L 0 = some x.a from rfl, Option.bind_some, Option.bind_some, texts_eq _ (by omega), Option.bind_some, if_pos rfl,
    show gi x.L 1 = some x.b from rfl, Option.bind_some, Option.bind_some, texts_eq _ (by omega), Option.bind_some, if_pos rfl,
    show gi x.L 2 = some x.c from rfl, Option.bind_some, Option.bind_some, texts_eq _ (by omega), Option.bind_some, if_pos rfl, h.Len, Option.bind_some, dLen hn h.xn, Option.bind_some]
  simp
theorem TR.Miss (h : TR n seed t s x) (hk : k.length ≤ 80) : ∃ t', tiny_Tiny_Miss t k = some t' ∧ TR n seed t' (if k.length ≤ 64 then ad (wd n) seed s k else s) x := by
  unfold tiny_Tiny_Miss
  by_cases h1 : k.length ≤ 64
  · rw [if_pos (by simp; omega), h.sk, om_some, h.add (by omega), Option.bind_some, if_pos h1]
    exact ⟨_, rfl, ⟨h.n1, h.n2, h.ms, rfl, h.adok k, h.rg, h.bb, h.ba, h.bc⟩⟩
  · rw [if_neg (by simp; omega), if_neg h1]
    exact ⟨_, rfl, h⟩
theorem do_ok (h : TR n seed t s x) (hn : n ≤ 900) (c : hawthornlaw08_Act) (hf : hawthornlaw08_few c.Key = some k) (hk : k.length ≤ 80) :
    ∃ t' s' x', hawthornlaw08_do t (TD n seed s x) c = some (some t', TD n seed s' x', true) ∧ TR n seed t' s' x' := by
  unfold hawthornlaw08_do
  rw [hf, Option.bind_some]
  by_cases c4 : (c.Kind == 4) = true ∨ (c.Kind == 5) = true
  · have e : (if (c.Kind == 4) then some (c.Kind == 4) else some (c.Kind == 5)) = some true := by
      rcases c4 with e | e
      · rw [if_pos e, e]
      · by_cases e4 : (c.Kind == 4) = true
        · rw [if_pos e4, e4]
        · rw [if_neg e4, e]
    rw [e, Option.bind_some, if_pos rfl]
    by_cases hm : k ∈ x.all
    · obtain ⟨t', e1, h1, _⟩ := h.touch hm
      rw [dTouch h hn hm, Option.bind_some, e1, Option.bind_some]
      exact ⟨_, _, _, rfl, h1⟩
    · rw [dTouch_no h hn hm, Option.bind_some, h.touch_no hm, Option.bind_some]
      exact ⟨_, _, _, rfl, h⟩
  · have f4 : ¬ (c.Kind == 4) = true := fun e => c4 (.inl e)
    have f5 : (c.Kind == 5) = false := by simpa using fun e => c4 (.inr e)
    rw [if_neg f4, Option.bind_some, f5, if_neg (by decide)]
    by_cases c6 : (c.Kind == 6) = true
    · obtain ⟨t', e1, h1⟩ := h.Remove k
      rw [if_pos c6, dRemove h hn, Option.bind_some, e1, Option.bind_some]
      exact ⟨_, _, _, by simp, h1⟩
    · rw [if_neg c6]
      by_cases c7 : (c.Kind == 7) = true
      · obtain ⟨t', x', e1, h1, e2⟩ := h.Evict
        rw [if_pos c7, dEvict h hn, Option.bind_some, e1, Option.bind_some]
        cases e3 : evk x with
        | none => rw [e3] at e2; dsimp only at e2; subst e2; exact ⟨_, _, _, by simp, h1⟩
        | some q => rw [e3] at e2; dsimp only at e2; subst e2; exact ⟨_, _, _, by simp, h1⟩
      · rw [if_neg c7]
        by_cases c8 : (c.Kind == 8) = true
        · obtain ⟨t', e1, h1⟩ := h.Miss hk
          rw [if_pos c8, e1, Option.bind_some, dMiss h hk, Option.bind_some]
          exact ⟨_, _, _, rfl, h1⟩
        · rw [if_neg c8]
          by_cases c9 : (c.Kind == 9) = true
          · obtain ⟨t', e1, h1⟩ := h.Import
            rw [if_pos c9, h.Export, Option.bind_some, e1, Option.bind_some, if_pos (by rfl), dPut h hn, Option.bind_some, Option.bind_some]
            exact ⟨_, _, _, by simp, h1⟩
          · rw [if_neg c9]
            by_cases h64 : k.length ≤ 64
            · by_cases hm : k ∈ x.all
              · obtain ⟨t', e1, h1, _⟩ := h.insert_yes hm
                rw [dInsert_yes h hn hm, Option.bind_some, e1, Option.bind_some, texts_eq _ (by simp), Option.bind_some]
                exact ⟨_, _, _, rfl, h1⟩
              · obtain ⟨t', e1, h1, _⟩ := h.insert_no hm h64
                have hl : (ins n seed (ad (wd n) seed s k) x k).2.length ≤ 1 := by
                  unfold ins
                  split
                  · simp
                  · split
                    · simp
                    · split
                      · split <;> simp
                      · simp
                rw [dInsert_no h hn hm h64, Option.bind_some, e1, Option.bind_some, texts_eq _ (by dsimp only; omega), Option.bind_some]
                exact ⟨_, _, _, rfl, h1⟩
            · rw [dInsert_long (by omega), Option.bind_some, h.insert_long (by omega), Option.bind_some, texts_eq _ (by simp), Option.bind_some]
              exact ⟨_, _, _, rfl, h⟩
end
theorem new_d (n : Nat) (seed : UInt64) (h1 : 1 ≤ n) (h2 : n ≤ 500) : hawthornref08_New (n : Int) seed = some (TD n seed ⟨List.replicate (wd n) 0, List.replicate (wd n) 0, List.replicate (wd n) 0, List.replicate (wd n) 0, List.replicate (wd n) false, 0⟩ ⟨[], [], []⟩) := by
  have ew : hawthornref08_wide (n : Int) = (wd n : Int) := by
    unfold hawthornref08_wide wd
    rw [if_neg (by simp; omega), i64s _ (by omega) (by omega)]; omega
  have w1 : 1 ≤ wd n := by unfold wd; omega
  have w2 : wd n ≤ 4096 := by unfold wd; omega
  unfold hawthornref08_New
  rw [ew, new_m (wd n) seed w1 w2, Option.bind_some, i64n n (by omega), show hawthornref06_New 3 _ = _ from rnew 3 (by omega), Option.bind_some]
  rfl
theorem plays_loop (l : List hawthornlaw08_Act) (n : Nat) (hn : n ≤ 16) (seed : UInt64) : ∀ (f i : Nat) (t : tiny_Tiny) (s : Sk) (x : TL), l.length - i < f → i ≤ l.length → i ≤ 80 → TR n seed t s x →
    ∃ t' s' x', hawthornlaw08_TinyPlays_l0 l f (some t) (i : Int) (TD n seed s x) = some (.inl (some t', TD n seed s' x')) ∧ TR n seed t' s' x'
  | 0, i, t, s, x, hf, _, _, _ => by omega
  | f + 1, i, t, s, x, hf, hi, h8, h => by
    unfold hawthornlaw08_TinyPlays_l0
    by_cases c : i < l.length ∧ i < 80
    · obtain ⟨k, hk, hk2⟩ := few8 l[i].Key
      obtain ⟨t1, s1, x1, e1, h1⟩ := do_ok h (by omega) l[i] hk hk2
      obtain ⟨t2, s2, x2, e2, h2⟩ := plays_loop l n hn seed f (i + 1) t1 s1 x1 (by omega) (by omega) (by omega) h1
      refine ⟨t2, s2, x2, ?_, h2⟩
      rw [if_pos (by simp; omega), giC, List.getElem?_eq_getElem c.1, Option.bind_some, om_some, e1, Option.bind_some, hk, Option.bind_some, om_some, if_pos rfl, same_ok h1 (by omega), Option.bind_some, if_pos rfl,
        h1.Has, Option.bind_some, dHas (by omega) h1.xn, Option.bind_some, if_neg (by simp), h1.Seen (by omega), Option.bind_some, dSeen h1 (by omega), Option.bind_some]
      simp only [bne_self_eq_false, Option.bind_some, Bool.false_eq_true, if_false]
      rw [i64n i (by omega)]
      exact e2
    · refine ⟨t, s, x, ?_, h⟩
      rw [if_neg (by simp; omega)]
theorem TinyPlays (a : Int) (seed : UInt64) (l : List hawthornlaw08_Act) {p q r : Prop} (_ : p) (_ : q) (_ : r) : hawthornlaw08_TinyPlays a seed l = some true := by
  obtain ⟨k, hk, hk2⟩ := iand_le a 15 (by decide)
  have hk : iand a 15 = (k : Int) := hk
  obtain ⟨t, s, e, h, hs⟩ := new_t (1 + k) seed (by omega) (by omega)
  have e1 : i64 (1 + iand a 15) = ((1 + k : Nat) : Int) := by rw [hk, i64s _ (by omega) (by omega)]; omega
  have e2 := new_d (1 + k) seed (by omega) (by omega)
  rw [← hs] at e2
  obtain ⟨t', s', x', e3, h'⟩ := plays_loop l (1 + k) (by omega) seed (((l.length : Int) - 0).toNat + 1) 0 t s _ (by omega) (by omega) (by omega) h
  rw [show ((0 : Nat) : Int) = 0 from rfl] at e3
  unfold hawthornlaw08_TinyPlays
  rw [e1, e, Option.bind_some, e2, Option.bind_some, awake8, Option.bind_some, if_neg (by simp), e3, Option.bind_some]
  dsimp only
  rw [om_some, h'.Export, Option.bind_some, dPut h' (by omega), Option.bind_some]
  simp
end Go.Proofs.YtlahbmoebbflbaaGreat.Pure
