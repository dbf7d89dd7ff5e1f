import Derived.Test.YtgnpffbgfmeinaaW1
import Derived.Test.YtgnpffbgfmeinaaPwireA
import Derived.Test.YtgnpffbgfmeinaaPwireB
import Derived.Test.YtgnpffbgfmeinaaPwireC
import Derived.Test.YtgnpffbgfmeinaaPwireD
import Derived.Test.YtgnpffbgfmeinaaPwireE
import Derived.Test.YtgnpffbgfmeinaaPwireF
import Derived.Test.YtgnpffbgfmeinaaPwireG
set_option linter.unusedVariables false
set_option linter.unusedSectionVars false
set_option linter.unusedSimpArgs false
set_option maxRecDepth 100000
set_option maxHeartbeats 8000000

namespace Go.Proofs.Ytgnpffbgfmeinaa.Pure
open Go Go.Proofs.Ytgnpffbgfmeinaa.Hw Go.Proofs.Ytgnpffbgfmeinaa

/-! frames -/

theorem must_err (S : Str) (e : Int) (b : Bool) (he : e ≠ 0) : hawthornref03_At_Must ⟨S, e⟩ b = ⟨S, e⟩ := by
  unfold hawthornref03_At_Must
  have e1 : (e == 0) = false := by simpa using he
  dsimp only
  rw [e1, Bool.false_and, if_neg (by decide)]
theorem ref_num_err (S : Str) (e : Int) (top : UInt64) (he : e ≠ 0) : ∃ v, hawthornref03_At_Num ⟨S, e⟩ top = some (⟨S, e⟩, v) := by
  unfold hawthornref03_At_Num
  have h : hawthornref03_At_Num_l0 11 0 1 0 ⟨S, e⟩ = some (.inr (⟨S, e⟩, 0)) := by
    unfold hawthornref03_At_Num_l0
    rw [if_pos (by decide), ref_bytes_err _ _ _ he, Option.bind_some]
    dsimp only
    have e2 : (e != 0) = true := by simpa using he
    rw [e2, if_pos rfl]
  rw [h, Option.bind_some]
  exact ⟨0, rfl⟩
theorem ref_text_err (S : Str) (e : Int) (top : Int) (he : e ≠ 0) : ∃ v, hawthornref03_At_Text ⟨S, e⟩ top = some (⟨S, e⟩, v) := by
  unfold hawthornref03_At_Text
  have key : ∀ p : Int, ∀ w : UInt64 → Int, ∃ v, ((hawthornref03_At_Num ⟨S, e⟩ (toW p)).bind fun r6 => (hawthornref03_At_Bytes r6.1 (w r6.2)).bind fun r9 => some (r9.1, r9.2)) = some ((⟨S, e⟩ : hawthornref03_At), v) := fun p w => by
    obtain ⟨v, hv⟩ := ref_num_err S e (toW p) he
    rw [hv, Option.bind_some]
    dsimp only
    rw [ref_bytes_err _ _ _ he, Option.bind_some]
    exact ⟨_, rfl⟩
  split
  · rw [Option.bind_some]; exact key 0 (fun x => i64 (x.toNat : Int))
  · rw [Option.bind_some]; exact key top (fun x => i64 (x.toNat : Int))

theorem shD_nat (a : UInt32) (k : UInt64) (n : Nat) (hk : min ((k.toNat : Int)).toNat 32 = n) : (shDr a ((k.toNat : Int))).toNat = a.toNat / 2 ^ n := by
  unfold shDr
  have h : a.toNat / 2 ^ n < 2 ^ 32 := Nat.lt_of_le_of_lt (Nat.div_le_self _ _) a.toNat_lt
  rw [hk, UInt32.toNat_ofNat', Nat.mod_eq_of_lt h]
theorem four_eq (a : UInt32) : wire_sum a = hawthornref03_Four a := by
  have h8 := shD_nat a 8 8 (by decide)
  have h16 := shD_nat a 16 16 (by decide)
  have h24 := shD_nat a 24 24 (by decide)
  have k1 : (256 : UInt32).toNat = 256 := by decide
  have k2 : (65536 : UInt32).toNat = 65536 := by decide
  have k3 : (16777216 : UInt32).toNat = 16777216 := by decide
  unfold wire_sum hawthornref03_Four
  have b0 : a.toUInt8 = (a % 256).toUInt8 := by
    apply UInt8.toNat_inj.1
    rw [UInt32.toNat_toUInt8, UInt32.toNat_toUInt8, UInt32.toNat_mod, k1]; omega
  have b1 : (shDr a ((8 : UInt64).toNat : Int)).toUInt8 = ((a / 256) % 256).toUInt8 := by
    apply UInt8.toNat_inj.1
    rw [UInt32.toNat_toUInt8, UInt32.toNat_toUInt8, UInt32.toNat_mod, UInt32.toNat_div, h8, k1]
    omega
  have b2 : (shDr a ((16 : UInt64).toNat : Int)).toUInt8 = ((a / 65536) % 256).toUInt8 := by
    apply UInt8.toNat_inj.1
    rw [UInt32.toNat_toUInt8, UInt32.toNat_toUInt8, UInt32.toNat_mod, UInt32.toNat_div, h16, k1, k2]
    omega
  have b3 : (shDr a ((24 : UInt64).toNat : Int)).toUInt8 = (a / 16777216).toUInt8 := by
    apply UInt8.toNat_inj.1
    rw [UInt32.toNat_toUInt8, UInt32.toNat_toUInt8, UInt32.toNat_div, h24, k3]
  rw [b0, b1, b2, b3]
end Go.Proofs.Ytgnpffbgfmeinaa.Pure
