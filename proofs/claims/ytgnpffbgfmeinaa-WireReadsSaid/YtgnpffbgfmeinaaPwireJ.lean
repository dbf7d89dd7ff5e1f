import Derived.Test.YtgnpffbgfmeinaaW1
import Derived.Test.YtgnpffbgfmeinaaPwireA
import Derived.Test.YtgnpffbgfmeinaaPwireB
import Derived.Test.YtgnpffbgfmeinaaPwireC
import Derived.Test.YtgnpffbgfmeinaaPwireD
import Derived.Test.YtgnpffbgfmeinaaPwireE
import Derived.Test.YtgnpffbgfmeinaaPwireF
import Derived.Test.YtgnpffbgfmeinaaPwireG
import Derived.Test.YtgnpffbgfmeinaaPwireH
import Derived.Test.YtgnpffbgfmeinaaPwireI
set_option linter.unusedVariables false
set_option linter.unusedSectionVars false
set_option linter.unusedSimpArgs false
set_option maxRecDepth 100000
set_option maxHeartbeats 8000000

namespace Go.Proofs.Ytgnpffbgfmeinaa.Pure
open Go Go.Proofs.Ytgnpffbgfmeinaa.Hw Go.Proofs.Ytgnpffbgfmeinaa

/-! WireOpens -/

/-- The code's closure, with the place of the check told by w. -/
def open1 (w : Int → Int) (a0 : wire_Reader) (a1 : Str) (a2 : Str) : Option ((wire_Reader × Str) ⊕ (Int × (wire_Reader × Str))) :=
  (wire_Reader_Bytes a0 1).bind fun r0 => sm r0 (fun (ra2 : Str × wire_Reader) => (gi ra2.1 0).bind fun c6 => lt (wire_Reader_Must ra2.2 (c6 == 49)) fun r8 => sm r8 (fun (ra10 : Unit) => (wire_Reader_Text ra2.2 65536).bind fun r14 => sm r14 (fun (ra16 : Str × wire_Reader) => (wire_Reader_Bytes ra16.2 4).bind fun r20 => sm r20 (fun (ra22 : Str × wire_Reader) => (sl a2 0 (w (wire_Reader_Left ra22.2))).bind fun s26 => (wire_Check s26).bind fun r28 => lt (wire_Reader_Must ra22.2 (ra22.1 == (wire_sum r28))) fun r30 => sm r30 (fun (ra32 : Unit) => some (Sum.inl (ra22.2, ra16.1))) fun ((rn33, ro34) : Int × Unit) => some (Sum.inr (rn33, (ra22.2, ra16.1)))) fun ((rn23, ro24) : Int × wire_Reader) => some (Sum.inr (rn23, (ro24, ra16.1)))) fun ((rn17, ro18) : Int × wire_Reader) => some (Sum.inr (rn17, (ro18, a1)))) fun ((rn11, ro12) : Int × Unit) => some (Sum.inr (rn11, (ra2.2, a1)))) fun ((rn3, ro4) : Int × wire_Reader) => some (Sum.inr (rn3, (ro4, a1)))
/-- The document's way, up to the last reader; the text. -/
def openR (w : Int → Int) (a0 : Str) : Option (hawthornref03_At × Str) :=
  (hawthornref03_At_Bytes (⟨a0, 0⟩ : hawthornref03_At) 1).bind fun r0 => (hawthornref03_At_Text (hawthornref03_At_Must r0.1 (r0.2 == [49])) 65536).bind fun r3 => (hawthornref03_At_Bytes r3.1 4).bind fun r5 => Option.bind (if (r5.1.Err == 0) then (sl a0 0 (w (r5.1.S.length : Int))).bind fun s15 => (hawthornref03_Check s15).bind fun r17 => some (hawthornref03_At_Must r5.1 (r5.2 == (hawthornref03_Four r17))) else some r5.1) fun p7 => some (p7, r3.2)

theorem must_ok (rd : wire_Reader) : wire_Reader_Must rd true = .inl () := rfl
theorem must_no (rd : wire_Reader) : wire_Reader_Must rd false = .inr (6, ()) := rfl
theorem rmust_ok (S : Str) : hawthornref03_At_Must ⟨S, 0⟩ true = ⟨S, 0⟩ := rfl
theorem rmust_no (S : Str) : hawthornref03_At_Must ⟨S, 0⟩ false = ⟨S, 6⟩ := rfl

/-- What the two come to: both a text and what is left, or the same error. -/
def relO (r : (wire_Reader × Str) ⊕ (Int × (wire_Reader × Str))) (a : hawthornref03_At × Str) : Prop :=
  match r with
  | .inl (rd, s) => a = (⟨rd.s, 0⟩, s)
  | .inr (e, _) => a.1.Err = e ∧ e ≠ 0

/-- The document's way on, once there is an error. -/
theorem openR_err (w : Int → Int) (f S : Str) (e : Int) (he : e ≠ 0) : ∃ v, ((hawthornref03_At_Text ⟨S, e⟩ 65536).bind fun r3 => (hawthornref03_At_Bytes r3.1 4).bind fun r5 => Option.bind (if (r5.1.Err == 0) then (sl f 0 (w (r5.1.S.length : Int))).bind fun s15 => (hawthornref03_Check s15).bind fun r17 => some (hawthornref03_At_Must r5.1 (r5.2 == (hawthornref03_Four r17))) else some r5.1) fun p7 => some (p7, r3.2)) = some ((⟨S, e⟩ : hawthornref03_At), v) := by
  obtain ⟨v, hv⟩ := ref_text_err S e 65536 he
  rw [hv, Option.bind_some]
  dsimp only
  rw [ref_bytes_err _ _ _ he, Option.bind_some]
  dsimp only
  have e1 : (e == 0) = false := by simpa using he
  rw [e1, if_neg (by decide), Option.bind_some]
  exact ⟨_, rfl⟩
theorem openR_err2 (w : Int → Int) (f S v : Str) (e : Int) (he : e ≠ 0) : ((hawthornref03_At_Bytes ⟨S, e⟩ 4).bind fun r5 => Option.bind (if (r5.1.Err == 0) then (sl f 0 (w (r5.1.S.length : Int))).bind fun s15 => (hawthornref03_Check s15).bind fun r17 => some (hawthornref03_At_Must r5.1 (r5.2 == (hawthornref03_Four r17))) else some r5.1) fun p7 => some (p7, v)) = some ((⟨S, e⟩ : hawthornref03_At), v) := by
  rw [ref_bytes_err _ _ _ he, Option.bind_some]
  dsimp only
  have e1 : (e == 0) = false := by simpa using he
  rw [e1, if_neg (by decide), Option.bind_some]

theorem open_gen (w : Int → Int) (f : Str) (hf : f.length ≤ 100000) (hw : ∀ l : Nat, l + 4 ≤ f.length → 0 ≤ w (l : Int) ∧ w (l : Int) ≤ (f.length : Int)) :
    ∃ r a, open1 w ⟨f⟩ [] f = some r ∧ openR w f = some a ∧ relO r a := by
  unfold open1 openR
  cases f with
  | nil =>
    rw [one_nil.1, one_nil.2, Option.bind_some, Option.bind_some]
    dsimp only [sm]
    rw [must_err _ _ _ (by decide)]
    obtain ⟨v, hv⟩ := openR_err w [] [] 4 (by decide)
    rw [hv]
    exact ⟨_, _, rfl, rfl, rfl, by decide⟩
  | cons c tl =>
    rw [(one_cons c tl).1, (one_cons c tl).2, Option.bind_some, Option.bind_some]
    dsimp only [sm]
    have hg : gi [c] 0 = some c := rfl
    rw [hg, Option.bind_some]
    have hc : (([c] : Str) == [49]) = (c == 49) := by
      rw [Bool.eq_iff_iff]; simp
    rw [hc]
    cases hcc : (c == 49)
    · rw [must_no, rmust_no]
      obtain ⟨v, hv⟩ := openR_err w (c :: tl) tl 6 (by decide)
      rw [hv]
      exact ⟨_, _, rfl, rfl, rfl, by decide⟩
    · rw [must_ok, rmust_ok]
      dsimp only [lt]
      obtain ⟨r, a, v, h1, h2, h3⟩ := text_rel tl 65536
      rw [h1, h2, Option.bind_some, Option.bind_some]
      rcases r with ⟨x, rd⟩ | ⟨e, rd⟩
      · obtain ⟨rfl, rfl⟩ := h3
        have hs := text_short tl x 65536 rd h1
        obtain ⟨S⟩ := rd
        dsimp only at hs ⊢
        obtain ⟨r2, a2, v2, g1, g2, g3, g4⟩ := bytes_rel S 4
        rw [g1, g2, Option.bind_some, Option.bind_some]
        rcases r2 with ⟨c4, rd2⟩ | ⟨e2, rd2⟩
        · obtain ⟨rfl, rfl⟩ := g3
          obtain ⟨_, h5, h6, h7⟩ := g4 _ _ rfl
          obtain ⟨S2⟩ := rd2
          dsimp only at h6 ⊢
          have hl : S2.length + 4 ≤ (c :: tl).length := by
            have h8 : c4.length = 4 := h7
            rw [h5] at h8
            rw [h6]
            simp at h8 ⊢
            omega
          obtain ⟨w0, w1⟩ := hw S2.length hl
          have hleft : wire_Reader_Left ⟨S2⟩ = (S2.length : Int) := rfl
          rw [hleft, sl_lo w0 w1, Option.bind_some]
          obtain ⟨q, k1, k2⟩ := check_eq ((c :: tl).take (w (S2.length : Int)).toNat) (by have := List.length_take_le (w (S2.length : Int)).toNat (c :: tl); omega)
          have e0 : ((0 : Int) == 0) = true := rfl
          rw [k1, e0, if_pos rfl, Option.bind_some, Option.bind_some, k2, Option.bind_some, Option.bind_some, four_eq]
          cases (c4 == hawthornref03_Four q)
          · rw [must_no, rmust_no]; exact ⟨_, _, rfl, rfl, rfl, by decide⟩
          · rw [must_ok, rmust_ok]; exact ⟨_, _, rfl, rfl, rfl⟩
        · obtain ⟨h4, h5⟩ := g3
          obtain ⟨S3, E3⟩ := a2
          dsimp only at h4
          subst h4
          dsimp only
          have e1 : (E3 == 0) = false := by simpa using h5
          rw [e1, if_neg (by decide), Option.bind_some]
          exact ⟨_, _, rfl, rfl, rfl, h5⟩
      · obtain ⟨h4, h5⟩ := h3
        obtain ⟨S3, E3⟩ := a
        dsimp only at h4
        subst h4
        dsimp only
        rw [openR_err2 w (c :: tl) S3 v E3 h5]
        exact ⟨_, _, rfl, rfl, rfl, h5⟩

/-- The document's Open, with the place of the check told by w. -/
def openR2 (w : Int → Int) (a0 : Str) : Option (Str × Int) :=
  (hawthornref03_At_Bytes (⟨a0, 0⟩ : hawthornref03_At) 1).bind fun r0 => (hawthornref03_At_Text (hawthornref03_At_Must r0.1 (r0.2 == [49])) 65536).bind fun r3 => (hawthornref03_At_Bytes r3.1 4).bind fun r5 => Option.bind (if (r5.1.Err == 0) then (sl a0 0 (w (r5.1.S.length : Int))).bind fun s15 => (hawthornref03_Check s15).bind fun r17 => some (hawthornref03_At_Must r5.1 (r5.2 == (hawthornref03_Four r17))) else some r5.1) fun p7 => if ((hawthornref03_At_End p7) != 0) then some ([], (hawthornref03_At_End p7)) else some (r3.2, 0)
theorem openR2_eq (w : Int → Int) (f : Str) : openR2 w f = (openR w f).bind fun p => if ((hawthornref03_At_End p.1) != 0) then some ([], (hawthornref03_At_End p.1)) else some (p.2, 0) := by
  unfold openR2 openR
  simp only [Option.bind_assoc, Option.bind_some]
theorem open1_eq (f : Str) : wire_Open_1 ⟨f⟩ [] f = open1 (fun l => i64 (i64 ((f.length : Int) - 4) - l)) ⟨f⟩ [] f := rfl
theorem openR_eq (f : Str) : hawthornref03_Open f = openR2 (fun l => i64 (i64 ((f.length : Int) - 4) - l)) f := rfl
theorem place_ok (n l : Nat) (h : l + 4 ≤ n) (hn : n ≤ 100000) : i64 (i64 ((n : Int) - 4) - (l : Int)) = (n : Int) - 4 - l := by
  rw [i64_id (n := (n : Int) - 4) (by omega) (by omega), i64_id (by omega) (by omega)]
theorem open_same (f : Str) (hf : f.length ≤ 100000) : ∃ o, wire_Open f = some o ∧ hawthornref03_Open f = some o := by
  obtain ⟨r, a, h1, h2, h3⟩ := open_gen (fun l => i64 (i64 ((f.length : Int) - 4) - l)) f hf (fun l hl => by
    show 0 ≤ i64 (i64 ((f.length : Int) - 4) - (l : Int)) ∧ i64 (i64 ((f.length : Int) - 4) - (l : Int)) ≤ _
    rw [place_ok _ _ hl hf]
    omega)
  rw [openR_eq, openR2_eq, h2, Option.bind_some]
  unfold wire_Open
  rw [open1_eq, h1, Option.bind_some]
  rcases r with ⟨rd, s⟩ | ⟨e, rd, s⟩
  · obtain rfl : a = _ := h3
    obtain ⟨S⟩ := rd
    dsimp only [sm]
    rw [Option.bind_some]
    unfold hawthornref03_At_End
    cases S with
    | nil => exact ⟨_, rfl, rfl⟩
    | cons c tl => exact ⟨_, rfl, rfl⟩
  · obtain ⟨h4, h5⟩ := h3
    dsimp only [sm]
    rw [Option.bind_some]
    have he : hawthornref03_At_End a.1 = e := by
      unfold hawthornref03_At_End
      rw [h4]
      have e1 : (e == 0) = false := by simpa using h5
      rw [e1, Bool.false_and, if_neg (by decide)]
    have e2 : (e != 0) = true := by simpa using h5
    dsimp only
    rw [he, e2, if_pos rfl, if_pos rfl]
    exact ⟨_, rfl, rfl⟩
theorem WireOpens (s : Str) (_ : sok s) : hawthornlaw03_WireOpens s = some true := by
  obtain ⟨t, ht, hl⟩ := few_some s
  obtain ⟨o, h1, h2⟩ := open_same t (by omega)
  unfold hawthornlaw03_WireOpens
  rw [ht, Option.bind_some, h1, Option.bind_some, h2, Option.bind_some, awake_true, Option.bind_some]
  simp
end Go.Proofs.Ytgnpffbgfmeinaa.Pure
