import Derived.Test.YtbldbopiofinbaaW0
namespace Go.Proofs.Ytbldbopiofinbaa.Pure
open Go Go.Proofs.Ytbldbopiofinbaa.Hw Go.Proofs.Ytbldbopiofinbaa

theorem awake_true : hawthornlaw16_awake = some true := by decide +kernel

theorem check_eq (v : api_View) : cell_Check v = hawthornref16_Check v := by
  unfold cell_Check hawthornref16_Check
  rw [Bool.eq_iff_iff]
  have e : ∀ x : UInt64, (x = 0) ↔ x.toNat = 0 := fun x => ⟨fun h => by rw [h]; rfl, fun h => UInt64.toNat_inj.1 h⟩
  split
  · rename_i h
    simp [UInt64.le_iff_toNat_le, UInt64.lt_iff_toNat_lt, e] at h ⊢
    omega
  · rename_i h
    simp [UInt64.le_iff_toNat_le, UInt64.lt_iff_toNat_lt, e] at h
    split
    · rename_i h2
      simp [UInt64.le_iff_toNat_le, UInt64.lt_iff_toNat_lt, e] at h2 ⊢
      omega
    · rename_i h2
      simp [UInt64.le_iff_toNat_le, UInt64.lt_iff_toNat_lt, e] at h2 ⊢
      omega

theorem CellNone (v : api_View) (b : UInt64) {p : Prop} (_ : p) : hawthornlaw16_CellNone v b = some true := by
  unfold hawthornlaw16_CellNone cell_New
  rw [check_eq, awake_true]
  cases hawthornref16_Check v <;> simp [lt, om, cell_Cell_Learn_n, cell_Cell_Prepare_n, cell_Cell_Accept_n, cell_Cell_Chosen_n, cell_Cell_Export_n]
end Go.Proofs.Ytbldbopiofinbaa.Pure
