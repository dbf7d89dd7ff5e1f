import Derived.Test.YtpanhdnglicknaaGreatW3
import Derived.Test.YtpanhdnglicknaaGreatPskZ
import Derived.Test.YtpanhdnglicknaaGreatPskP
import Derived.Test.YtpanhdnglicknaaGreatPringA
import Derived.Test.YtpanhdnglicknaaGreatPringB
import Derived.Test.YtpanhdnglicknaaGreatPringC
import Derived.Test.YtpanhdnglicknaaGreatPringD
import Derived.Test.YtpanhdnglicknaaGreatPringE
import Derived.Test.YtpanhdnglicknaaGreatPringF
import Derived.Test.YtpanhdnglicknaaGreatPtinyZ
import Derived.Test.YtpanhdnglicknaaGreatPtinyB
import Derived.Test.YtpanhdnglicknaaGreatPtinyC
import Derived.Test.YtpanhdnglicknaaGreatPtinyY
import Derived.Test.YtpanhdnglicknaaGreatParcA
import Derived.Test.YtpanhdnglicknaaGreatParcB
import Derived.Test.YtpanhdnglicknaaGreatPpolA
import Derived.Test.YtpanhdnglicknaaGreatPstA
import Derived.Test.YtpanhdnglicknaaGreatPstB
import Derived.Test.YtpanhdnglicknaaGreatPstC
set_option linter.unusedVariables false
set_option linter.unusedSectionVars false
set_option linter.unusedSimpArgs false
set_option maxRecDepth 100000
set_option maxHeartbeats 8000000

namespace Go.Proofs.YtpanhdnglicknaaGreat.Pure
open Go Go.Proofs.YtpanhdnglicknaaGreat.Hw Go.Proofs.YtpanhdnglicknaaGreat

def ent0 : api_Entry := ⟨[], [], 0, 0⟩
theorem toW_n {j : Nat} (h : j < 18446744073709551616) : (toW (j : Int)).toNat = j := by
  unfold toW
  rw [UInt64.toNat_ofNat']
  omega
theorem mput_len {K V : Type} [BEq K] [LawfulBEq K] {m : List (K × V)} {k : K} {v : V} (h : mget m k = none) : (mput m k v).length = m.length + 1 := by
  induction m with
  | nil => rfl
  | cons p m ih =>
    obtain ⟨a, u⟩ := p
    unfold mget at h
    unfold mput
    split at h
    · cases h
    · rename_i hk; rw [if_neg hk]; simp [ih h]
theorem mput_len2 {K V : Type} [BEq K] [LawfulBEq K] {m : List (K × V)} {k : K} {v u : V} (h : mget m k = some u) : (mput m k v).length = m.length := by
  induction m with
  | nil => cases h
  | cons p m ih =>
    obtain ⟨a, w⟩ := p
    unfold mget at h
    unfold mput
    split at h
    · rename_i hk; rw [if_pos hk]; rfl
    · rename_i hk; rw [if_neg hk]; simp [ih h]
/-- What is kept, by the keys' order. -/
def listed (m : TM) : List api_Entry := (ksort (keys m)).map fun k => (mget m k).getD ent0
theorem ent_l0 (L : List Str) (t : table_Table) (hL : L.length ≤ 2000) : ∀ (f i : Nat) (o : List api_Entry), f = L.length - i + 1 → i ≤ L.length → o.length + (L.length - i) ≤ 5000 →
    store_Store_Entries_l0 L t f o (i : Int) = some (o ++ (L.drop i).map fun k => (mget t.m k).getD ent0) := by
  intro f
  induction f with
  | zero => intro i o h; omega
  | succ f ih =>
    intro i o hf hi ho
    unfold store_Store_Entries_l0
    by_cases c : i < L.length
    · unfold table_Table_Get
      rw [if_pos (by simpa using c), gN c, Option.bind_some, lt_eq, apd_i _ _ _ (by decide) (by simp; omega), Option.bind_some, i_a1 (by omega), ih (i + 1) _ (by omega) (by omega) (by simp; omega), drop_at' c, List.map_cons, List.append_assoc]
      rfl
    · rw [if_neg (by simpa using c), List.drop_eq_nil_of_le (by omega)]; simp
theorem st_entries {c : api_Config} {t : table_Table} {p : Option policy_Policy} {ss : List (UInt64 × store_last)} {sq nw vr : UInt64} {ty : api_Tally} {K : List Str} (ht : TB K t) : store_Store_Entries ⟨c, some t, p, ss, sq, nw, vr, ty⟩ = some (listed t.m) := by
  have hl := ht.len
  have := ht.le
  have hk : (ksort (keys t.m)).length ≤ 1001 := by rw [(ksort_perm _).length_eq]; unfold keys; simp; omega
  unfold store_Store_Entries table_Table_Keys
  dsimp only
  rw [om_some, ht.mkeys, Option.bind_some]
  have := ent_l0 (ksort (keys t.m)) t (by omega) (((((ksort (keys t.m)).length : Nat) : Int) - 0).toNat + 1) 0 [] (by omega) (by omega) (by simp; omega)
  rw [List.nil_append, List.drop_zero] at this
  rw [show store_Store_Entries_l0 (ksort (keys t.m)) t (((((ksort (keys t.m)).length : Nat) : Int) - 0).toNat + 1) [] 0 = _ from this, Option.bind_some]
  rfl
theorem listed_len (m : TM) : (listed m).length = m.length := by unfold listed; rw [List.length_map, (ksort_perm _).length_eq]; unfold keys; simp
end Go.Proofs.YtpanhdnglicknaaGreat.Pure
