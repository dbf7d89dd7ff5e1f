import Derived.Test.YtgnpffbgfmeinaaW1
import Derived.Test.YtgnpffbgfmeinaaPwireA
import Derived.Test.YtgnpffbgfmeinaaPwireB
import Derived.Test.YtgnpffbgfmeinaaPwireC
import Derived.Test.YtgnpffbgfmeinaaPwireD
import Derived.Test.YtgnpffbgfmeinaaPwireE
import Derived.Test.YtgnpffbgfmeinaaPwireF
import Derived.Test.YtgnpffbgfmeinaaPwireG
import Derived.Test.YtgnpffbgfmeinaaPwireH
import Derived.Test.YtgnpffbgfmeinaaPwireI
import Derived.Test.YtgnpffbgfmeinaaPwireJ
set_option linter.unusedVariables false
set_option linter.unusedSectionVars false
set_option linter.unusedSimpArgs false
set_option maxRecDepth 100000
set_option maxHeartbeats 8000000

namespace Go.Proofs.Ytgnpffbgfmeinaa.Pure
open Go Go.Proofs.Ytgnpffbgfmeinaa.Hw Go.Proofs.Ytgnpffbgfmeinaa

/-! WirePairs -/

theorem top_all (n : UInt64) : n ≤ 18446744073709551615 := by
  rw [UInt64.le_iff_toNat_le]
  have := n.toNat_lt
  have e : (18446744073709551615 : UInt64).toNat = 18446744073709551615 := by decide
  omega
theorem enc_prefix (a b : UInt64) (r : Str) (h : enc 11 b.toNat = enc 11 a.toNat ++ r) : a = b := by
  have h1 := num_back a 18446744073709551615 r (top_all a)
  have h2 := num_back b 18446744073709551615 [] (top_all b)
  rw [List.append_nil, h, h1] at h2
  cases h2
  rfl
theorem pairs_1 (a b : UInt64) (t : Str) (hl : t.length ≤ 300) : hawthornlaw03_WirePairs_1 ⟨(enc 11 a.toNat ++ (enc 11 t.length ++ t)) ++ enc 11 b.toNat⟩ 0 [] 0 = some (.inl (⟨[]⟩, a, t, b)) := by
  unfold hawthornlaw03_WirePairs_1
  have e : (enc 11 a.toNat ++ (enc 11 t.length ++ t)) ++ enc 11 b.toNat = enc 11 a.toNat ++ (enc 11 t.length ++ (t ++ (enc 11 b.toNat ++ []))) := by simp
  rw [e, num_back a _ _ (top_all a), Option.bind_some]
  dsimp only [sm]
  rw [text_back t _ 300 (by omega) (by omega) (by decide), Option.bind_some]
  dsimp only [sm]
  rw [num_back b _ _ (top_all b), Option.bind_some]
theorem WirePairs (a b : UInt64) (s : Str) (_ : sok s) : hawthornlaw03_WirePairs a b s = some true := by
  obtain ⟨t, ht, hl⟩ := few_some s
  obtain ⟨ea, _⟩ := num_enc a
  obtain ⟨eb, _⟩ := num_enc b
  obtain ⟨et, _⟩ := text_bytes t (by omega)
  have la := enc_len 11 a.toNat
  have lb := enc_len 11 b.toNat
  have lt' := enc_len 11 t.length
  unfold hawthornlaw03_WirePairs
  rw [ht, Option.bind_some, ea, Option.bind_some, et, Option.bind_some, if_pos (by simp [maxS]; omega), eb, Option.bind_some, if_pos (by simp [maxS]; omega), pairs_1 a b t hl, Option.bind_some]
  dsimp only [sm]
  rw [Option.bind_some, awake_true, Option.bind_some]
  simp only [beq_self_eq_true, if_true, Bool.and_self]
  by_cases hab : a = b
  · subst hab; simp
  · have e1 : (a == b) = false := by simpa using hab
    rw [e1, Bool.false_or]
    by_cases hlt : ((enc 11 b.toNat).length : Int) < ((enc 11 a.toNat).length : Int)
    · rw [if_pos (by simpa using hlt)]
    · rw [if_neg (by simpa using hlt), sl_lo (by omega) (by omega), Option.bind_some]
      have hne : (enc 11 b.toNat).take (((enc 11 a.toNat).length : Int)).toNat ≠ enc 11 a.toNat := fun h => by
        have h3 := List.take_append_drop (((enc 11 a.toNat).length : Int)).toNat (enc 11 b.toNat)
        rw [h] at h3
        exact hab (enc_prefix a b _ h3.symm)
      simpa using hne
end Go.Proofs.Ytgnpffbgfmeinaa.Pure
