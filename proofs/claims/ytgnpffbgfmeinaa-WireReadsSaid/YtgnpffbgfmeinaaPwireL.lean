import Derived.Test.YtgnpffbgfmeinaaW1
import Derived.Test.YtgnpffbgfmeinaaPwireA
import Derived.Test.YtgnpffbgfmeinaaPwireB
import Derived.Test.YtgnpffbgfmeinaaPwireC
import Derived.Test.YtgnpffbgfmeinaaPwireD
import Derived.Test.YtgnpffbgfmeinaaPwireE
import Derived.Test.YtgnpffbgfmeinaaPwireF
import Derived.Test.YtgnpffbgfmeinaaPwireG
import Derived.Test.YtgnpffbgfmeinaaPwireH
import Derived.Test.YtgnpffbgfmeinaaPwireI
import Derived.Test.YtgnpffbgfmeinaaPwireJ
import Derived.Test.YtgnpffbgfmeinaaPwireK
set_option linter.unusedVariables false
set_option linter.unusedSectionVars false
set_option linter.unusedSimpArgs false
set_option maxRecDepth 100000
set_option maxHeartbeats 8000000

namespace Go.Proofs.Ytgnpffbgfmeinaa.Pure
open Go Go.Proofs.Ytgnpffbgfmeinaa.Hw Go.Proofs.Ytgnpffbgfmeinaa

/-! WireSpoilt: readers take off the front; the check tells two bytes' rows apart that differ in one byte -/

theorem num_suffix : ∀ (k : Nat) (n : UInt64) (j : Int) (s : Str) (m : UInt64) (t : Str), wire_Reader_Num_l0 k n j s = some (.inl (m, t)) → t <:+ s := by
  intro k
  induction k with
  | zero => intro n j s m t h; cases h
  | succ k ih =>
    intro n j s m t h
    unfold wire_Reader_Num_l0 at h
    split at h
    case isFalse => cases h; exact List.suffix_refl _
    cases s with
    | nil =>
      rw [one_nil.1, Option.bind_some] at h
      cases h
    | cons c tl =>
      rw [(one_cons c tl).1, Option.bind_some] at h
      dsimp only [sm] at h
      have hg : gi [c] 0 = some c := rfl
      rw [hg, Option.bind_some] at h
      generalize i64 (7 * j) = q at h
      generalize i64 (j + 1) = j1 at h
      split at h
      · cases h
      · rw [Option.bind_some] at h
        dsimp only at h
        split at h
        case isFalse => cases h
        split at h
        · cases h; exact List.suffix_cons _ _
        · exact (ih _ _ _ _ _ h).trans (List.suffix_cons _ _)
theorem num_suf (s : Str) (top x : UInt64) (rd : wire_Reader) (h : wire_Reader_Num ⟨s⟩ top = some (.inl (x, rd))) : rd.s <:+ s := by
  unfold wire_Reader_Num at h
  dsimp only at h
  cases h1 : wire_Reader_Num_l0 11 0 0 s with
  | none => rw [h1] at h; cases h
  | some r =>
    rw [h1, Option.bind_some] at h
    rcases r with ⟨n, s'⟩ | q
    · have hs := num_suffix _ _ _ _ _ _ h1
      dsimp only at h
      split at h
      · cases h
      · cases h; exact hs
    · dsimp only at h
      obtain ⟨r, a, g1, _, g3⟩ := num_loop 11 0 0 1 s rfl (by omega) (fun _ => ⟨by decide, by decide⟩)
      have g1' : wire_Reader_Num_l0 11 0 0 s = some r := g1
      rw [h1] at g1'
      cases g1'
      cases h
      exact g3.elim
theorem text_suf_gen (w : UInt64 → Int) (s x : Str) (p : UInt64) (rd : wire_Reader) (h : ((wire_Reader_Num ⟨s⟩ p).bind fun r0 => sm r0 (fun (ra2 : UInt64 × wire_Reader) => (wire_Reader_Bytes ra2.2 (w ra2.1)).bind fun r6 => sm r6 (fun (ra8 : Str × wire_Reader) => some (Sum.inl (ra8.1, ra8.2))) fun ((rn9, ro10) : Int × wire_Reader) => some (Sum.inr (rn9, ro10))) fun ((rn3, ro4) : Int × wire_Reader) => some (Sum.inr (rn3, ro4))) = some (Sum.inl (x, rd))) : rd.s <:+ s := by
  cases h1 : wire_Reader_Num ⟨s⟩ p with
  | none => rw [h1] at h; cases h
  | some r =>
    rw [h1, Option.bind_some] at h
    rcases r with ⟨y, rd1⟩ | ⟨e, rd1⟩
    · have hs := num_suf s p y rd1 h1
      obtain ⟨S⟩ := rd1
      dsimp only [sm] at h
      obtain ⟨r2, a2, v2, g1, _, _, g4⟩ := bytes_rel S (w y)
      rw [g1, Option.bind_some] at h
      rcases r2 with ⟨x2, rd2⟩ | ⟨e2, rd2⟩
      · cases h
        obtain ⟨_, _, h5, _⟩ := g4 _ _ rfl
        rw [h5]
        exact (List.drop_suffix _ _).trans hs
      · cases h
    · cases h
theorem text_suf (s x : Str) (top : Int) (rd : wire_Reader) (h : wire_Reader_Text ⟨s⟩ top = some (.inl (x, rd))) : rd.s <:+ s := by
  unfold wire_Reader_Text at h
  exact text_suf_gen (fun x => i64 (x.toNat : Int)) s x _ rd h

theorem open1_inv (w : Int → Int) (f s : Str) (h : open1 w ⟨f⟩ [] f = some (.inl (⟨[]⟩, s))) : 4 ≤ f.length ∧ ∃ p q, sl f 0 (w 0) = some p ∧ wire_Check p = some q ∧ f.drop (f.length - 4) = wire_sum q := by
  unfold open1 at h
  cases f with
  | nil => rw [one_nil.1, Option.bind_some] at h; cases h
  | cons c tl =>
    rw [(one_cons c tl).1, Option.bind_some] at h
    dsimp only [sm] at h
    have hg : gi [c] 0 = some c := rfl
    rw [hg, Option.bind_some] at h
    cases hcc : (c == 49)
    · rw [hcc, must_no] at h; dsimp only [lt, sm] at h; cases h
    · rw [hcc, must_ok] at h
      dsimp only [lt, sm] at h
      cases h1 : wire_Reader_Text ⟨tl⟩ 65536 with
      | none => rw [h1] at h; cases h
      | some r =>
        rw [h1, Option.bind_some] at h
        rcases r with ⟨x, rd⟩ | ⟨e, rd⟩
        case inr => dsimp only [sm] at h; cases h
        have hs := text_suf tl x 65536 rd h1
        obtain ⟨S⟩ := rd
        dsimp only [sm] at h hs
        obtain ⟨r2, a2, v2, g1, _, _, g4⟩ := bytes_rel S 4
        rw [g1, Option.bind_some] at h
        rcases r2 with ⟨c4, rd2⟩ | ⟨e2, rd2⟩
        case inr => dsimp only [sm] at h; cases h
        obtain ⟨_, h5, h6, h7⟩ := g4 _ _ rfl
        obtain ⟨S2⟩ := rd2
        dsimp only [sm] at h h6
        have hleft : wire_Reader_Left ⟨S2⟩ = (S2.length : Int) := rfl
        rw [hleft] at h
        cases h8 : sl (c :: tl) 0 (w (S2.length : Int)) with
        | none => rw [h8] at h; cases h
        | some p =>
          rw [h8, Option.bind_some] at h
          cases h9 : wire_Check p with
          | none => rw [h9] at h; cases h
          | some q =>
            rw [h9, Option.bind_some] at h
            cases h10 : (c4 == wire_sum q)
            · rw [h10, must_no] at h; dsimp only [lt, sm] at h; cases h
            · rw [h10, must_ok] at h
              dsimp only [lt, sm] at h
              simp only [Option.some.injEq, Sum.inl.injEq, Prod.mk.injEq, wire_Reader.mk.injEq] at h
              obtain ⟨rfl, _⟩ := h
              have hc4 : c4 = wire_sum q := by simpa using h10
              have hS : S = c4 := by
                have h11 := List.take_append_drop (4 : Int).toNat S
                rw [← h5, ← h6] at h11
                simpa using h11.symm
              obtain ⟨pre, hpre⟩ := hs
              have h4 : c4.length = 4 := h7
              have hf : c :: tl = (c :: pre) ++ c4 := by rw [← hpre, hS]; rfl
              refine ⟨by rw [hf]; simp; omega, p, q, h8, h9, ?_⟩
              rw [← hc4, hf]
              have : ((c :: pre) ++ c4).length - 4 = (c :: pre).length := by simp; omega
              rw [this, List.drop_left]
theorem open_inv (f s : Str) (hf : f.length ≤ 100000) (h : wire_Open f = some (s, 0)) : 4 ≤ f.length ∧ ∃ q, wire_Check (f.take (f.length - 4)) = some q ∧ f.drop (f.length - 4) = wire_sum q := by
  unfold wire_Open at h
  rw [open1_eq] at h
  cases h1 : open1 (fun l => i64 (i64 ((f.length : Int) - 4) - l)) ⟨f⟩ [] f with
  | none => rw [h1] at h; cases h
  | some r =>
    rw [h1, Option.bind_some] at h
    rcases r with ⟨rd, t⟩ | ⟨e, rd, t⟩
    · obtain ⟨S⟩ := rd
      dsimp only [sm] at h
      rw [Option.bind_some] at h
      cases S with
      | cons c tl => exact absurd h (by intro h; cases h)
      | nil =>
        obtain ⟨h4, p, q, h2, h3, h5⟩ := open1_inv _ _ _ h1
        have hp := place_ok f.length 0 (by omega) hf
        have e0 : ((0 : Nat) : Int) = 0 := rfl
        rw [e0] at hp
        rw [hp, sl_lo (by omega) (by omega)] at h2
        cases h2
        refine ⟨h4, q, ?_, h5⟩
        rw [← h3]
        congr 2
        omega
    · dsimp only [sm] at h
      rw [Option.bind_some] at h
      dsimp only at h
      split at h
      · rename_i hne
        cases h
        exact absurd hne (by decide)
      · rename_i hne
        have : e = 0 := by simpa using hne
        subst this
        obtain ⟨r', a', g1, _, g3⟩ := open_gen (fun l => i64 (i64 ((f.length : Int) - 4) - l)) f hf (fun l hl => by
          show 0 ≤ i64 (i64 ((f.length : Int) - 4) - (l : Int)) ∧ i64 (i64 ((f.length : Int) - 4) - (l : Int)) ≤ _
          rw [place_ok _ _ hl hf]
          omega)
        rw [h1] at g1
        cases g1
        exact absurd rfl g3.2
/-- One that is refused has no text. -/
theorem open_no (f s : Str) (e : Int) (h : wire_Open f = some (s, e)) (he : e ≠ 0) : s = [] := by
  unfold wire_Open at h
  cases h1 : wire_Open_1 ⟨f⟩ [] f with
  | none => rw [h1] at h; cases h
  | some r =>
    rw [h1, Option.bind_some] at h
    generalize hq : (sm r _ _ : Option (Int × Str)) = o at h
    cases o with
    | none => cases h
    | some p =>
      rw [Option.bind_some] at h
      split at h
      · cases h; rfl
      · cases h; exact absurd rfl he

/-! the check's register -/

theorem nth31 (x : UInt32) (hx : x.toNat < 2 ^ 31) (y : UInt32) (hy : y.toNat < 2 ^ 31) : x ^^^ 3945912366 ≠ y := fun h => by
  have h1 := congrArg UInt32.toNat h
  rw [UInt32.toNat_xor] at h1
  have h2 := congrArg (fun n => n.testBit 31) h1
  simp only [Nat.testBit_xor, Nat.testBit_lt_two_pow hx, Nat.testBit_lt_two_pow hy] at h2
  exact absurd h2 (by decide)
theorem shr_lt (r : UInt32) : (r >>> (1 : UInt32)).toNat < 2 ^ 31 := by
  have h : r >>> (1 : UInt32) = r / 2 := (half r).symm
  have e : (2 : UInt32).toNat = 2 := by decide
  rw [h, UInt32.toNat_div, e]
  have := r.toNat_lt
  omega
theorem low_bit (r : UInt32) : ((r &&& 1) == 1) = decide (r.toNat % 2 = 1) := by
  rw [Bool.eq_iff_iff, beq_iff_eq, decide_eq_true_iff, ← UInt32.toNat_inj, UInt32.toNat_and]
  have e : (1 : UInt32).toNat = 1 := by decide
  rw [e, Nat.and_one_is_mod]
theorem bit_inj (r t : UInt32) (h : bitStep r = bitStep t) : r = t := by
  have key : ∀ a b : UInt32, a >>> (1 : UInt32) = b >>> (1 : UInt32) → a.toNat % 2 = b.toNat % 2 → a = b := fun a b h1 h2 => by
    apply UInt32.toNat_inj.1
    rw [← half, ← half] at h1
    have h3 := congrArg UInt32.toNat h1
    have e : (2 : UInt32).toNat = 2 := by decide
    rw [UInt32.toNat_div, UInt32.toNat_div, e] at h3
    omega
  unfold bitStep at h
  rw [low_bit, low_bit] at h
  by_cases h1 : r.toNat % 2 = 1 <;> by_cases h2 : t.toNat % 2 = 1 <;> simp only [h1, h2, decide_true, decide_false, if_true, Bool.false_eq_true, if_false] at h
  · exact key _ _ ((UInt32.xor_left_inj _).1 h) (by omega)
  · exact absurd h (nth31 _ (shr_lt _) _ (shr_lt _))
  · exact absurd h.symm (nth31 _ (shr_lt _) _ (shr_lt _))
  · exact key _ _ h (by omega)
def rounds : Nat → UInt32 → UInt32
  | 0, r => r
  | n + 1, r => rounds n (bitStep r)
theorem rounds_inj : ∀ (n : Nat) (r t : UInt32), rounds n r = rounds n t → r = t
  | 0, _, _, h => h
  | n + 1, r, t, h => bit_inj _ _ (rounds_inj n _ _ h)
def crc (r : UInt32) (c : UInt8) : UInt32 := rounds 8 (r ^^^ c.toUInt32)
theorem crc_inj (r t : UInt32) (c : UInt8) (h : crc r c = crc t c) : r = t := (UInt32.xor_left_inj _).1 (rounds_inj _ _ _ h)
theorem crc_byte (r : UInt32) (c d : UInt8) (h : crc r c = crc r d) : c = d := by
  have h1 := (UInt32.xor_right_inj _).1 (rounds_inj _ _ _ h)
  apply UInt8.toNat_inj.1
  have := congrArg UInt32.toNat h1
  simpa using this
theorem fold_inj : ∀ (l : Str) (r t : UInt32), l.foldl crc r = l.foldl crc t → r = t
  | [], _, _, h => h
  | c :: l, r, t, h => crc_inj _ _ c (fold_inj l _ _ h)
theorem inner_rounds : ∀ (n j : Nat) (r : UInt32), n = 8 - j + 1 → j ≤ 8 → wire_Check_l1 n r (j : Int) = some (rounds (8 - j) r) := by
  intro n
  induction n with
  | zero => intro j r h; omega
  | succ n ih =>
    intro j r hn hj
    unfold wire_Check_l1
    by_cases h8 : j < 8
    · have e : decide ((j : Int) < 8) = true := by simp; omega
      have ei : i64 ((j : Int) + 1) = ((j + 1 : Nat) : Int) := by rw [i64_id] <;> omega
      have e8 : 8 - j = (8 - (j + 1)) + 1 := by omega
      rw [if_pos e, sh1, e8]
      unfold rounds bitStep
      split
      · rw [Option.bind_some, ei]; exact ih (j + 1) _ (by omega) (by omega)
      · rw [Option.bind_some, ei]; exact ih (j + 1) _ (by omega) (by omega)
    · obtain rfl : j = 8 := by omega
      rw [if_neg (by decide)]
      rfl
theorem outer_fold (s : Str) (hs : (s.length : Int) ≤ 9223372036854775807) : ∀ (n : Nat) (r : UInt32) (i : Nat), i ≤ s.length → n = s.length - i + 1 →
    wire_Check_l0 s n r (i : Int) = some ((s.drop i).foldl crc r) := by
  intro n
  induction n with
  | zero => intro r i _ h; omega
  | succ n ih =>
    intro r i h1 hn
    unfold wire_Check_l0
    by_cases hi : i < s.length
    · have e : decide ((i : Int) < (s.length : Int)) = true := by simp; omega
      have hc : gi s (i : Int) = some s[i] := by
        unfold gi
        rw [if_pos (by omega)]
        exact List.getElem?_eq_getElem hi
      have h0 : wire_Check_l1 9 (r ^^^ s[i].toUInt32) 0 = some (crc r s[i]) := inner_rounds 9 0 _ rfl (by omega)
      rw [if_pos e, hc, Option.bind_some, h0, Option.bind_some, Option.bind_some, i64_id (by omega) (by omega)]
      have h2 := ih (crc r s[i]) (i + 1) (by omega) (by omega)
      rw [List.drop_eq_getElem_cons hi]
      exact h2
    · have e : ¬ decide ((i : Int) < (s.length : Int)) = true := by simp; omega
      rw [if_neg e, List.drop_of_length_le (by omega)]
      rfl
theorem check_fold (s : Str) (hs : s.length ≤ maxLen) (hm : s.length ≤ 9223372036854775807) : wire_Check s = some (~~~ (s.foldl crc 4294967295)) := by
  unfold wire_Check
  have h := outer_fold s (by omega) (((s.length : Int) - 0).toNat + 1) 4294967295 0 (by omega) (by omega)
  rw [List.drop_zero] at h
  have h' : wire_Check_l0 s (((s.length : Int) - 0).toNat + 1) 4294967295 0 = some (s.foldl crc 4294967295) := h
  rw [if_pos hs, h', Option.bind_some]
theorem check_apart (A B : Str) (x y : UInt8) (hl : (A ++ x :: B).length ≤ 100000) (q : UInt32) (h1 : wire_Check (A ++ x :: B) = some q) (h2 : wire_Check (A ++ y :: B) = some q) : x = y := by
  have e : (A ++ y :: B).length = (A ++ x :: B).length := by simp
  rw [check_fold _ (by simp [maxLen] at hl ⊢; omega) (by omega)] at h1 h2
  have h3 := Option.some.inj (h1.trans h2.symm)
  have h4 := congrArg (fun z => ~~~ z) h3
  simp only [UInt32.not_not, List.foldl_append, List.foldl_cons] at h4
  exact crc_byte _ _ _ (fold_inj _ _ _ h4)
theorem sum_inj (a b : UInt32) (h : wire_sum a = wire_sum b) : a = b := by
  have a8 := shD_nat a 8 8 (by decide)
  have a16 := shD_nat a 16 16 (by decide)
  have a24 := shD_nat a 24 24 (by decide)
  have b8 := shD_nat b 8 8 (by decide)
  have b16 := shD_nat b 16 16 (by decide)
  have b24 := shD_nat b 24 24 (by decide)
  unfold wire_sum at h
  simp only [List.cons.injEq, and_true] at h
  obtain ⟨h0, h1, h2, h3⟩ := h
  have k0 := congrArg UInt8.toNat h0
  have k1 := congrArg UInt8.toNat h1
  have k2 := congrArg UInt8.toNat h2
  have k3 := congrArg UInt8.toNat h3
  rw [UInt32.toNat_toUInt8, UInt32.toNat_toUInt8] at k0 k1 k2 k3
  rw [a8, b8] at k1
  rw [a16, b16] at k2
  rw [a24, b24] at k3
  apply UInt32.toNat_inj.1
  have := a.toNat_lt
  have := b.toNat_lt
  omega
theorem set_split (f : Str) (k : Nat) (y : UInt8) (hk : k < f.length) : f = f.take k ++ f[k] :: f.drop (k + 1) ∧ f.set k y = f.take k ++ y :: f.drop (k + 1) := by
  constructor
  · have := List.take_append_drop k f
    rw [List.drop_eq_getElem_cons hk] at this
    exact this.symm
  · rw [List.set_eq_take_append_cons_drop, if_pos hk]
theorem spoilt (f : Str) (k : Nat) (y : UInt8) (hk : k < f.length) (hy : y ≠ f[k]) (hl : f.length ≤ 100000) (q : UInt32) (h4 : 4 ≤ f.length)
    (hq : wire_Check (f.take (f.length - 4)) = some q) (hs : f.drop (f.length - 4) = wire_sum q) (t : Str) : wire_Open (f.set k y) ≠ some (t, 0) := fun h => by
  obtain ⟨_, q', h1, h2⟩ := open_inv (f.set k y) t (by simpa using hl) h
  rw [List.length_set] at h1 h2
  by_cases hp : k < f.length - 4
  · have e1 : (f.set k y).drop (f.length - 4) = f.drop (f.length - 4) := List.drop_set_of_lt hp
    rw [e1, hs] at h2
    have := sum_inj _ _ h2
    subst this
    have e2 : (f.set k y).take (f.length - 4) = (f.take (f.length - 4)).set k y := List.take_set
    rw [e2] at h1
    have hk' : k < (f.take (f.length - 4)).length := by simp; omega
    obtain ⟨s1, s2⟩ := set_split (f.take (f.length - 4)) k y hk'
    rw [s2] at h1
    rw [s1] at hq
    have := check_apart _ _ _ _ (by simp; omega) q hq h1
    apply hy
    rw [← this]
    simp
  · have e1 : (f.set k y).take (f.length - 4) = f.take (f.length - 4) := List.take_set_of_le (by omega)
    rw [e1, hq] at h1
    cases h1
    rw [← hs] at h2
    have h3 := congrArg (fun l => l[k - (f.length - 4)]?) h2
    simp only [List.getElem?_drop] at h3
    rw [show f.length - 4 + (k - (f.length - 4)) = k by omega, List.getElem?_set_self hk, List.getElem?_eq_getElem hk] at h3
    exact hy (Option.some.inj h3)
end Go.Proofs.Ytgnpffbgfmeinaa.Pure
