import Derived.Test.YtbldbopiofinbaaW0
set_option linter.unusedVariables false
set_option linter.unusedSimpArgs false
set_option maxRecDepth 100000
set_option maxHeartbeats 8000000

namespace Go.Proofs.Ytbldbopiofinbaa.Pure
open Go Go.Proofs.Ytbldbopiofinbaa.Hw Go.Proofs.Ytbldbopiofinbaa

theorem awake_true : hawthornlaw16_awake = some true := by decide +kernel

theorem check_eq (v : api_View) : cell_Check v = hawthornref16_Check v := by
  unfold cell_Check hawthornref16_Check
  rw [Bool.eq_iff_iff]
  have e : ∀ x : UInt64, (x = 0) ↔ x.toNat = 0 := fun x => ⟨fun h => by rw [h]; rfl, fun h => UInt64.toNat_inj.1 h⟩
  split
  · rename_i h
    simp [UInt64.le_iff_toNat_le, UInt64.lt_iff_toNat_lt, e] at h ⊢
    omega
  · rename_i h
    simp [UInt64.le_iff_toNat_le, UInt64.lt_iff_toNat_lt, e] at h
    split
    · rename_i h2
      simp [UInt64.le_iff_toNat_le, UInt64.lt_iff_toNat_lt, e] at h2 ⊢
      omega
    · rename_i h2
      simp [UInt64.le_iff_toNat_le, UInt64.lt_iff_toNat_lt, e] at h2 ⊢
      omega

theorem CellNone (v : api_View) (b : UInt64) {p : Prop} (_ : p) : hawthornlaw16_CellNone v b = some true := by
  unfold hawthornlaw16_CellNone cell_New
  rw [check_eq, awake_true]
  cases hawthornref16_Check v <;> simp [lt, om, cell_Cell_Learn_n, cell_Cell_Prepare_n, cell_Cell_Accept_n, cell_Cell_Chosen_n, cell_Cell_Export_n]

theorem gi_lt {α : Type} {l : List α} {i : Int} (h0 : 0 ≤ i) (h1 : i < (l.length : Int)) : ∃ x, gi l i = some x := by
  unfold gi
  rw [if_pos h0]
  exact ⟨_, List.getElem?_eq_getElem (by omega)⟩
theorem step_ok {i n : Int} (h0 : 0 ≤ i) (h1 : i < n) (h2 : n ≤ 9223372036854775807) : i64 (i + 1) = i + 1 := i64_id (by omega) (by omega)

theorem ballots_loop (l : List UInt64) (v : api_View) (hl : (l.length : Int) ≤ 9223372036854775807) : ∀ (n : Nat) (most : UInt64) (i : Int) (c : cell_Cell),
    c.chosen = hawthornlaw16_first → c.most = most → 0 ≤ i → i ≤ (l.length : Int) → ((l.length : Int) - i).toNat + 1 ≤ n →
    ∃ c', hawthornlaw16_CellBallots_l1 l v n most i c = some (Sum.inl c') := by
  intro n
  induction n with
  | zero => intro most i c _ _ _ _ h; omega
  | succ n ih =>
    intro most i c hc hm h0 h1 hn
    unfold hawthornlaw16_CellBallots_l1
    by_cases hi : i < (l.length : Int) ∧ i < 30
    · have hb : (decide (i < (l.length : Int)) && decide (i < 30)) = true := by simpa using hi
      rw [if_pos hb]
      obtain ⟨x, hx⟩ := gi_lt h0 hi.1
      have hi1 := step_ok h0 hi.1 hl
      have go : ∀ m c', c'.chosen = hawthornlaw16_first → c'.most = m → ∃ c'', hawthornlaw16_CellBallots_l1 l v n m (i64 (i + 1)) c' = some (Sum.inl c'') := fun m c' h1 h2 => by
        rw [hi1]
        exact ih m (i + 1) c' h1 h2 (by omega) (by omega) (by omega)
      have hlearn : cell_Cell_Learn c hawthornlaw16_first = (false, c) := by
        unfold cell_Cell_Learn
        rw [hc]
        rfl
      by_cases he : (i.tmod 2 == 0) = true
      · rw [if_pos he, hx]
        simp only [Option.bind_some, lt, cell_Cell_Prepare, hlearn, hc, decide_true, Bool.not_true, Bool.false_or]
        rw [hm]
        by_cases hq : x ≤ most
        · have hq2 : ¬ most < x := by simpa [UInt64.not_lt] using hq
          simp only [hq, hq2, decide_true, decide_false, if_true, cell_Cell_promise, bne_self_eq_false, Bool.false_eq_true, if_false, Option.bind_some]
          exact go _ _ hc hm
        · have hq2 : most < x := by simpa [UInt64.not_le] using hq
          simp only [hq, hq2, decide_true, decide_false, if_true, cell_Cell_promise, bne_self_eq_false, Bool.false_eq_true, if_false, Option.bind_some]
          exact go _ _ rfl rfl
      · rw [if_neg he, hx]
        simp only [Option.bind_some, lt, cell_Cell_Accept]
        have hV : ((2 : UInt64) != c.chosen.V + 1) = false := by rw [hc]; rfl
        simp only [hV, Bool.or_false, hm]
        cases hk : cell_Check ⟨2, v.Primary, v.PLife, v.Backup, v.BLife, v.Epoch⟩
        · simp [cell_Cell_promise]
          exact go _ _ hc hm
        · by_cases hq : x < most
          · have hq2 : ¬ most ≤ x := by simpa [UInt64.not_le] using hq
            simp [hq, hq2, cell_Cell_promise]
            exact go _ _ hc hm
          · have hq2 : most ≤ x := by simpa [UInt64.not_lt] using hq
            by_cases hz : x = 0
            · subst hz
              simp [hq2, hq, cell_Cell_promise]
              exact go _ _ hc hm
            · have hz2 : 0 < x := by
                rw [UInt64.lt_iff_toNat_lt]
                rcases Nat.eq_zero_or_pos x.toNat with h | h
                · exact absurd (UInt64.toNat_inj.1 (by simpa using h)) hz
                · simpa using h
              simp [hq2, hq, hz, hz2, cell_Cell_promise]
              by_cases hq3 : most < x
              · simp [hq3]
                exact go _ _ hc rfl
              · have : most = x := by
                  apply UInt64.toNat_inj.1
                  simp only [UInt64.le_iff_toNat_le, UInt64.lt_iff_toNat_lt] at hq2 hq3
                  omega
                simp [hq3]
                exact go _ _ hc this.symm
    · have hb : (decide (i < (l.length : Int)) && decide (i < 30)) = false := by simpa [Decidable.not_and_iff_not_or_not] using hi
      rw [hb]
      exact ⟨_, rfl⟩

theorem CellBallots (l : List UInt64) (v : api_View) {p q : Prop} (_ : p) (hl : l.length * 8 ≤ reachBytes) (_ : q) : hawthornlaw16_CellBallots l v = some true := by
  unfold hawthornlaw16_CellBallots
  have hb : (l.length : Int) ≤ 9223372036854775807 := by simp [reachBytes] at hl; omega
  rw [awake_true]
  have hn : cell_New hawthornlaw16_first = (some ⟨hawthornlaw16_first, 0, 0, ⟨0, 0, 0, 0, 0, 0⟩⟩, 0) := by decide +kernel
  rw [hn]
  obtain ⟨c, hc⟩ := ballots_loop l v hb (((l.length : Int) - 0).toNat + 1) 0 0 ⟨hawthornlaw16_first, 0, 0, ⟨0, 0, 0, 0, 0, 0⟩⟩ rfl rfl (by omega) (by omega) (by omega)
  simp only [lt, om, Option.bind_some]
  rw [if_neg (by decide), hc]
  rfl


theorem learn_self (c : cell_Cell) : cell_Cell_Learn c c.chosen = (false, c) := by
  unfold cell_Cell_Learn
  rw [if_pos]
  have : decide (c.chosen.V ≤ c.chosen.V) = true := by simp [UInt64.le_iff_toNat_le]
  rw [this, Bool.or_true]

theorem learns_loop (l : List api_View) (hl : (l.length : Int) ≤ 9223372036854775807) : ∀ (n : Nat) (ballot : UInt64) (i : Int) (c : cell_Cell),
    c.most = ballot → ballot.toNat ≤ i.toNat → 0 ≤ i → i ≤ (l.length : Int) → ((l.length : Int) - i).toNat + 1 ≤ n →
    ∃ c', hawthornlaw16_CellLearns_l1 l n ballot i c = some (Sum.inl c') := by
  intro n
  induction n with
  | zero => intro ballot i c _ _ _ _ h; omega
  | succ n ih =>
    intro ballot i c hm hbi h0 h1 hn
    unfold hawthornlaw16_CellLearns_l1
    by_cases hi : i < (l.length : Int) ∧ i < 30
    · have hb : (decide (i < (l.length : Int)) && decide (i < 30)) = true := by simpa using hi
      rw [if_pos hb]
      obtain ⟨x, hx⟩ := gi_lt h0 hi.1
      have hi1 := step_ok h0 hi.1 hl
      have hb1 : (ballot + 1).toNat = ballot.toNat + 1 := by rw [UInt64.toNat_add]; have : (1 : UInt64).toNat = 1 := rfl; omega
      have go : ∀ (m : UInt64) c', c'.most = m → m.toNat ≤ i.toNat + 1 → ∃ c'', hawthornlaw16_CellLearns_l1 l n m (i64 (i + 1)) c' = some (Sum.inl c'') := fun m c' h1 h2 => by
        rw [hi1]
        exact ih m (i + 1) c' h1 (by omega) (by omega) (by omega) (by omega)
      have hle : ¬ ballot + 1 ≤ ballot := by rw [UInt64.le_iff_toNat_le]; omega
      have hprep : cell_Cell_Prepare c (cell_Cell_Chosen c) (ballot + 1) = (cell_Cell_promise ⟨c.chosen, ballot + 1, c.ballot, c.value⟩ true, ⟨c.chosen, ballot + 1, c.ballot, c.value⟩) := by
        unfold cell_Cell_Prepare cell_Cell_Chosen
        simp only [learn_self, lt, hm, hle, decide_true, decide_false, Bool.not_true, Bool.or_false, Bool.false_eq_true, if_false, cell_Cell_promise]
      rw [hprep]
      simp only [lt, cell_Cell_promise, Bool.not_true, Bool.false_eq_true, if_false, hx, Option.bind_some]
      unfold cell_Cell_Learn
      rw [check_eq]
      cases hk : hawthornref16_Check x
      · simp only [Bool.not_false, Bool.true_or, if_true, Bool.false_and, bne_self_eq_false, Bool.false_eq_true, if_false, cell_Cell_Chosen, decide_true, Bool.not_true, Option.bind_some]
        exact go _ _ rfl (by omega)
      · by_cases hv : x.V ≤ c.chosen.V
        · have hv2 : ¬ c.chosen.V < x.V := by simpa [UInt64.not_lt] using hv
          simp only [hv, hv2, decide_true, decide_false, Bool.or_true, Bool.and_false, if_true, bne_self_eq_false, Bool.false_eq_true, if_false, cell_Cell_Chosen, Bool.not_true, Option.bind_some]
          exact go _ _ rfl (by omega)
        · have hv2 : c.chosen.V < x.V := by simpa [UInt64.not_le] using hv
          simp only [hv, hv2, decide_true, decide_false, Bool.or_false, Bool.and_true, Bool.not_true, Bool.false_eq_true, if_false, bne_self_eq_false, cell_Cell_Chosen, if_true, Option.bind_some]
          have hp : cell_Cell_Prepare ⟨x, 0, 0, ⟨0, 0, 0, 0, 0, 0⟩⟩ x 1 = (⟨true, x.V + 1, 1, 0, ⟨0, 0, 0, 0, 0, 0⟩, x⟩, ⟨x, 1, 0, ⟨0, 0, 0, 0, 0, 0⟩⟩) := by
            have hs := learn_self ⟨x, 0, 0, ⟨0, 0, 0, 0, 0, 0⟩⟩
            unfold cell_Cell_Prepare
            rw [hs]
            simp [lt, cell_Cell_promise]
          rw [hp]
          simp only [decide_true, Bool.not_true, bne_self_eq_false, Bool.or_false, Bool.false_eq_true, if_false, Option.bind_some]
          exact go _ _ rfl (by have : (1 : UInt64).toNat = 1 := rfl; omega)
    · have hb : (decide (i < (l.length : Int)) && decide (i < 30)) = false := by simpa [Decidable.not_and_iff_not_or_not] using hi
      rw [hb]
      exact ⟨_, rfl⟩

theorem CellLearns (l : List api_View) {p : Prop} (_ : p) (hl : l.length * 48 ≤ reachBytes) : hawthornlaw16_CellLearns l = some true := by
  unfold hawthornlaw16_CellLearns
  have hb : (l.length : Int) ≤ 9223372036854775807 := by simp [reachBytes] at hl; omega
  rw [awake_true]
  have hn : cell_New hawthornlaw16_first = (some ⟨hawthornlaw16_first, 0, 0, ⟨0, 0, 0, 0, 0, 0⟩⟩, 0) := by decide +kernel
  rw [hn]
  obtain ⟨c, hc⟩ := learns_loop l hb (((l.length : Int) - 0).toNat + 1) 0 0 ⟨hawthornlaw16_first, 0, 0, ⟨0, 0, 0, 0, 0, 0⟩⟩ rfl (by decide) (by omega) (by omega) (by omega)
  simp only [lt, om, Option.bind_some]
  rw [if_neg (by decide), hc]
  rfl

end Go.Proofs.Ytbldbopiofinbaa.Pure
