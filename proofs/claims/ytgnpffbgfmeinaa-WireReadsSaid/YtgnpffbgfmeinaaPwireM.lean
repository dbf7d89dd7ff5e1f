import Derived.Test.YtgnpffbgfmeinaaW1
import Derived.Test.YtgnpffbgfmeinaaPwireA
import Derived.Test.YtgnpffbgfmeinaaPwireB
import Derived.Test.YtgnpffbgfmeinaaPwireC
import Derived.Test.YtgnpffbgfmeinaaPwireD
import Derived.Test.YtgnpffbgfmeinaaPwireE
import Derived.Test.YtgnpffbgfmeinaaPwireF
import Derived.Test.YtgnpffbgfmeinaaPwireG
import Derived.Test.YtgnpffbgfmeinaaPwireH
import Derived.Test.YtgnpffbgfmeinaaPwireI
import Derived.Test.YtgnpffbgfmeinaaPwireJ
import Derived.Test.YtgnpffbgfmeinaaPwireK
import Derived.Test.YtgnpffbgfmeinaaPwireL
set_option linter.unusedVariables false
set_option linter.unusedSectionVars false
set_option linter.unusedSimpArgs false
set_option maxRecDepth 100000
set_option maxHeartbeats 8000000

namespace Go.Proofs.Ytgnpffbgfmeinaa.Pure
open Go Go.Proofs.Ytgnpffbgfmeinaa.Hw Go.Proofs.Ytgnpffbgfmeinaa

theorem frame_of (s : Str) (h : s.length ≤ 300) : ∃ q, wire_Check ([49] ++ (enc 11 s.length ++ s)) = some q ∧ wire_Frame s = some (([49] ++ (enc 11 s.length ++ s)) ++ wire_sum q, 0) := by
  have hl := enc_len 11 s.length
  obtain ⟨e1, _⟩ := text_bytes s (by omega)
  obtain ⟨q, h1, _⟩ := check_eq ([49] ++ (enc 11 s.length ++ s)) (by simp; omega)
  have h4 : (wire_sum q).length = 4 := rfl
  refine ⟨q, h1, ?_⟩
  unfold wire_Frame
  rw [if_neg (by simp; omega), e1, Option.bind_some, if_pos (by simp [maxS]; omega), h1, Option.bind_some, if_pos (by rw [h4]; simp [maxS]; omega)]
theorem place_at (a n : Int) (hn : 0 < n) (hm : n ≤ 1000) (ha : iok a) : 0 ≤ (i64 (a.tmod n + n)).tmod n ∧ (i64 (a.tmod n + n)).tmod n < n := by
  have h1 : a.tmod n < n := Int.tmod_lt_of_pos a hn
  have h2 : -n < a.tmod n := by
    have := Int.tmod_lt_of_pos (-a) hn
    rw [Int.neg_tmod] at this
    omega
  rw [i64_id (by omega) (by omega)]
  exact ⟨Int.tmod_nonneg _ (by omega), Int.tmod_lt_of_pos _ hn⟩
theorem WireSpoilt (s : Str) (at_ : Int) (bits : UInt8) (_ : sok s) (ha : iok at_) : hawthornlaw03_WireSpoilt s at_ bits = some true := by
  obtain ⟨t, ht, hl⟩ := few_some s
  obtain ⟨q, hq, hf⟩ := frame_of t hl
  have hle := enc_len 11 t.length
  have h4 : (wire_sum q).length = 4 := rfl
  generalize hP : [49] ++ (enc 11 t.length ++ t) = P at hq hf
  have hPl : P.length ≤ 400 := by rw [← hP]; simp; omega
  unfold hawthornlaw03_WireSpoilt
  rw [ht, Option.bind_some, hf, Option.bind_some, awake_true, Option.bind_some]
  dsimp only
  generalize hF : P ++ wire_sum q = F
  have hFl : F.length = P.length + 4 := by rw [← hF]; simp [h4]
  split
  · rfl
  · rename_i hc
    rw [if_pos (by simp [maxLen]; omega), if_pos (by omega)]
    obtain ⟨p0, p1⟩ := place_at at_ (F.length : Int) (by omega) (by omega) ha
    generalize (i64 (at_.tmod (F.length : Int) + (F.length : Int))).tmod (F.length : Int) = k at p0 p1
    obtain ⟨k, rfl⟩ : ∃ j : Nat, k = (j : Int) := ⟨k.toNat, by omega⟩
    have hk : k < F.length := by omega
    have hg : gi F (k : Int) = some F[k] := by
      unfold gi
      rw [if_pos (by omega)]
      exact List.getElem?_eq_getElem hk
    rw [hg, Option.bind_some]
    have hls : ls F (k : Int) (F[k] ^^^ bits) = F.set k (F[k] ^^^ bits) := rfl
    rw [hls]
    have hb : bits ≠ 0 := fun h => hc (by simp [h])
    have hne : F[k] ^^^ bits ≠ F[k] := fun h => hb (by
      have h2 : F[k] ^^^ bits = F[k] ^^^ 0 := by rw [h]; simp
      exact (UInt8.xor_right_inj _).1 h2)
    have hd : F.drop (F.length - 4) = wire_sum q := by
      rw [show F.length - 4 = P.length by omega, ← hF, List.drop_left]
    have htk : F.take (F.length - 4) = P := by
      rw [show F.length - 4 = P.length by omega, ← hF, List.take_left]
    have hno := spoilt F k (F[k] ^^^ bits) hk hne (by omega) q (by omega) (by rw [htk]; exact hq) hd
    obtain ⟨o, h1, _⟩ := open_same (F.set k (F[k] ^^^ bits)) (by simp; omega)
    obtain ⟨u, e⟩ := o
    rw [h1, Option.bind_some]
    have he : e ≠ 0 := fun h => hno u (by rw [← h]; exact h1)
    have hu := open_no _ _ _ h1 he
    subst hu
    have e1 : (e != 0) = true := by simpa using he
    dsimp only
    rw [e1]
    rfl
end Go.Proofs.Ytgnpffbgfmeinaa.Pure
