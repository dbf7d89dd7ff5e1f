import Derived.Test.YtgnpffbgfmeinaaW1
import Derived.Test.YtgnpffbgfmeinaaPwireA
import Derived.Test.YtgnpffbgfmeinaaPwireB
import Derived.Test.YtgnpffbgfmeinaaPwireC
import Derived.Test.YtgnpffbgfmeinaaPwireD
import Derived.Test.YtgnpffbgfmeinaaPwireE
import Derived.Test.YtgnpffbgfmeinaaPwireF
import Derived.Test.YtgnpffbgfmeinaaPwireG
import Derived.Test.YtgnpffbgfmeinaaPwireH
import Derived.Test.YtgnpffbgfmeinaaPwireI
import Derived.Test.YtgnpffbgfmeinaaPwireJ
import Derived.Test.YtgnpffbgfmeinaaPwireK
import Derived.Test.YtgnpffbgfmeinaaPwireL
import Derived.Test.YtgnpffbgfmeinaaPwireM
set_option linter.unusedVariables false
set_option linter.unusedSectionVars false
set_option linter.unusedSimpArgs false
set_option maxRecDepth 100000
set_option maxHeartbeats 8000000

namespace Go.Proofs.Ytgnpffbgfmeinaa.Pure
open Go Go.Proofs.Ytgnpffbgfmeinaa.Hw Go.Proofs.Ytgnpffbgfmeinaa

theorem ltq {α β : Type} (x : α) (f : α → β) : lt x f = f x := rfl
theorem sumL (q : UInt32) (P : Str) : (P ++ wire_sum q).length = P.length + 4 := by rw [List.length_append]; rfl
theorem open1_back (w : Int → Int) (s : Str) (q : UInt32) (hs : s.length ≤ 65536) (hw : w 0 = (([49] ++ (enc 11 s.length ++ s)).length : Int)) (hq : wire_Check ([49] ++ (enc 11 s.length ++ s)) = some q) :
    open1 w ⟨([49] ++ (enc 11 s.length ++ s)) ++ wire_sum q⟩ [] (([49] ++ (enc 11 s.length ++ s)) ++ wire_sum q) = some (.inl (⟨[]⟩, s)) := by
  have e : ([49] ++ (enc 11 s.length ++ s)) ++ wire_sum q = 49 :: (enc 11 s.length ++ (s ++ wire_sum q)) := by simp
  have h4 : (wire_sum q).length = 4 := rfl
  have b := bytes_ok (wire_sum q) [] 4 (by rw [h4]; rfl)
  rw [List.append_nil] at b
  have hsl : sl (([49] ++ (enc 11 s.length ++ s)) ++ wire_sum q) 0 (w 0) = some ([49] ++ (enc 11 s.length ++ s)) := by
    rw [hw, sl_lo (by omega) (by rw [sumL]; omega), Int.toNat_natCast, List.take_left]
  unfold open1
  generalize hP : [49] ++ (enc 11 s.length ++ s) = P at *
  rw [show (⟨P ++ wire_sum q⟩ : wire_Reader) = ⟨49 :: (enc 11 s.length ++ (s ++ wire_sum q))⟩ by rw [e], (one_cons 49 _).1, Option.bind_some]
  dsimp only [sm]
  rw [show gi [(49 : UInt8)] 0 = some 49 from rfl, Option.bind_some, ltq, show ((49 : UInt8) == 49) = true from rfl, must_ok]
  dsimp only [sm]
  rw [text_back s (wire_sum q) 65536 (by omega) (by omega) (by omega), Option.bind_some]
  dsimp only [sm]
  rw [b, Option.bind_some]
  dsimp only [sm]
  rw [show wire_Reader_Left ⟨[]⟩ = 0 from rfl, hsl, Option.bind_some, hq, Option.bind_some, ltq, show (wire_sum q == wire_sum q) = true by simp, must_ok]
theorem frame_back (s : Str) (h : s.length ≤ 65536) : ∃ F, wire_Frame s = some (F, 0) ∧ hawthornref03_Frame s = some F ∧ wire_Open F = some (s, 0) ∧ F.length ≤ s.length + 20 ∧ 5 ≤ F.length ∧ ∃ q, F = ([49] ++ (enc 11 s.length ++ s)) ++ wire_sum q ∧ wire_Check ([49] ++ (enc 11 s.length ++ s)) = some q := by
  have hl := enc_len 11 s.length
  obtain ⟨e1, e2⟩ := text_bytes s (by omega)
  obtain ⟨q, h1, h2⟩ := check_eq ([49] ++ (enc 11 s.length ++ s)) (by simp; omega)
  have h4 : (wire_sum q).length = 4 := rfl
  have h5 : (hawthornref03_Four q).length = 4 := rfl
  have hF : ([49] ++ (enc 11 s.length ++ s)).length ≤ s.length + 12 := by simp; omega
  refine ⟨([49] ++ (enc 11 s.length ++ s)) ++ wire_sum q, ?_, ?_, ?_, by rw [sumL]; omega, by rw [sumL]; simp, q, rfl, h1⟩
  · unfold wire_Frame
    rw [if_neg (by simp; omega), e1, Option.bind_some, if_pos (by simp [maxS]; omega), h1, Option.bind_some, if_pos (by rw [h4]; simp [maxS]; omega)]
  · unfold hawthornref03_Frame
    rw [e2, Option.bind_some, if_pos (by simp [maxS]; omega), h2, Option.bind_some, if_pos (by rw [h5]; simp [maxS]; omega), four_eq]
  · have hlen : ((([49] ++ (enc 11 s.length ++ s)) ++ wire_sum q).length : Int) = (([49] ++ (enc 11 s.length ++ s)).length : Int) + 4 := by rw [sumL]; rfl
    have ho := open1_back (fun l => i64 (i64 ((((([49] ++ (enc 11 s.length ++ s)) ++ wire_sum q).length : Nat) : Int) - 4) - l)) s q h (by
      show i64 (i64 _ - ((0 : Nat) : Int)) = _
      rw [place_ok _ 0 (by rw [sumL]; omega) (by rw [sumL]; omega), hlen]; omega) h1
    unfold wire_Open
    rw [open1_eq, ho, Option.bind_some]
    rfl
theorem frame_long (s : Str) (h : 65536 < s.length) : wire_Frame s = some ([], 3) := by
  unfold wire_Frame
  rw [if_pos (by simp; omega)]
theorem iand_le3 (a : Int) : ∃ k : Nat, iand a 3 = (k : Int) ∧ k ≤ 3 := by
  have e : (BitVec.ofInt 64 (3 : Int)).toNat = 3 := by decide
  have h2 : (BitVec.ofInt 64 a &&& BitVec.ofInt 64 (3 : Int)).toNat ≤ 3 := by
    rw [BitVec.toNat_and, e]; exact Nat.and_le_right
  unfold iand
  generalize (BitVec.ofInt 64 a &&& BitVec.ofInt 64 (3 : Int)).toNat = k at h2
  exact ⟨k, i64_id (by omega) (by omega), h2⟩
theorem WireFrames (s : Str) (n : Int) {p q : Prop} (_ : p) (_ : q) : hawthornlaw03_WireFrames s n = some true := by
  obtain ⟨t, ht, hl⟩ := few_some s
  obtain ⟨F, f1, f2, f3, _⟩ := frame_back t (by omega)
  obtain ⟨k, hk, hk3⟩ := iand_le3 n
  have e1 : i64 (65535 + iand n 3) = ((65535 + k : Nat) : Int) := by rw [hk, i64_id (by omega) (by omega)]; omega
  have mk : mks 1 ((65535 + k : Nat) : Int) (0 : UInt8) = some (List.replicate (65535 + k) 0) := by
    unfold mks; rw [if_pos (by omega)]; rfl
  unfold hawthornlaw03_WireFrames
  rw [ht, Option.bind_some, f1, Option.bind_some, f3, Option.bind_some, e1, mk, Option.bind_some]
  by_cases h : 65535 + k ≤ 65536
  · obtain ⟨G, g1, _⟩ := frame_back (List.replicate (65535 + k) 0) (by rw [List.length_replicate]; omega)
    rw [g1, Option.bind_some, awake_true, Option.bind_some, if_pos (by rfl), f2, Option.bind_some, if_pos (by simp)]
    have d : decide (((65535 + k : Nat) : Int) ≤ 65536) = true := by rw [decide_eq_true_eq]; omega
    rw [d]
    simp
  · rw [frame_long _ (by rw [List.length_replicate]; omega), Option.bind_some, awake_true, Option.bind_some, if_pos (by rfl), f2, Option.bind_some, if_pos (by simp)]
    have d : decide (((65535 + k : Nat) : Int) ≤ 65536) = false := by rw [decide_eq_false_iff_not]; omega
    rw [d]
    simp
end Go.Proofs.Ytgnpffbgfmeinaa.Pure
