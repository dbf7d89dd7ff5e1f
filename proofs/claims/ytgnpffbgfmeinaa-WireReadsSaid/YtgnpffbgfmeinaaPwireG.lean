import Derived.Test.YtgnpffbgfmeinaaW1
import Derived.Test.YtgnpffbgfmeinaaPwireA
import Derived.Test.YtgnpffbgfmeinaaPwireB
import Derived.Test.YtgnpffbgfmeinaaPwireC
import Derived.Test.YtgnpffbgfmeinaaPwireD
import Derived.Test.YtgnpffbgfmeinaaPwireE
import Derived.Test.YtgnpffbgfmeinaaPwireF
set_option linter.unusedVariables false
set_option linter.unusedSectionVars false
set_option linter.unusedSimpArgs false
set_option maxRecDepth 100000
set_option maxHeartbeats 8000000

namespace Go.Proofs.Ytgnpffbgfmeinaa.Pure
open Go Go.Proofs.Ytgnpffbgfmeinaa.Hw Go.Proofs.Ytgnpffbgfmeinaa

theorem text_of (s : Str) (top : Int) (r : (Str × wire_Reader) ⊕ (Int × wire_Reader)) (h : wire_Reader_Text ⟨s⟩ top = some r) : hawthornlaw03_text s top = some (out [] r) := by
  unfold hawthornlaw03_text hawthornlaw03_text_1
  rw [h, Option.bind_some]
  rcases r with ⟨x, rd⟩ | ⟨e, rd⟩ <;> rfl
theorem flag_of (s : Str) (r : (Bool × wire_Reader) ⊕ (Int × wire_Reader)) (h : wire_Reader_Flag ⟨s⟩ = some r) : hawthornlaw03_flag s = some (out false r) := by
  unfold hawthornlaw03_flag hawthornlaw03_flag_1
  rw [h, Option.bind_some]
  rcases r with ⟨x, rd⟩ | ⟨e, rd⟩ <;> rfl
theorem toW_len (n : Nat) (h : n ≤ 100000) : (toW (n : Int)).toNat = n := by
  unfold toW
  rw [UInt64.toNat_ofNat']
  omega
theorem text_bytes (u : Str) (h : u.length ≤ 100000) : wire_Text u = some (enc 11 u.length ++ u) ∧ hawthornref03_Text u = some (enc 11 u.length ++ u) := by
  obtain ⟨e1, e2⟩ := num_enc (toW (u.length : Int))
  rw [toW_len _ h] at e1 e2
  have hl := enc_len 11 u.length
  have hm : (enc 11 u.length).length + u.length ≤ maxS := by unfold maxS; omega
  unfold wire_Text hawthornref03_Text
  rw [e1, e2, Option.bind_some, if_pos hm]
  exact ⟨rfl, rfl⟩
theorem bytes_ok (u rest : Str) (q : Int) (e : q = (u.length : Int)) : wire_Reader_Bytes ⟨u ++ rest⟩ q = some (.inl (u, ⟨rest⟩)) := by
  subst e
  unfold wire_Reader_Bytes
  dsimp only
  have e1 : (decide ((u.length : Int) < 0) || decide (((u ++ rest).length : Int) < (u.length : Int))) = false := by simp; omega
  rw [e1, if_neg (by decide), Option.bind_some]
  dsimp only
  rw [sl_lo (by omega) (by simp; omega), sl_hi (by omega) (by simp; omega), Option.bind_some, Option.bind_some]
  simp
theorem then_bytes (u rest : Str) (q : Int) (e : q = (u.length : Int)) : ((wire_Reader_Bytes ⟨u ++ rest⟩ q).bind fun r6 => sm r6 (fun (ra8 : Str × wire_Reader) => some (Sum.inl (ra8.1, ra8.2))) fun ((rn9, ro10) : Int × wire_Reader) => some (Sum.inr (rn9, ro10))) = some (Sum.inl (u, ⟨rest⟩)) := by
  rw [bytes_ok u rest q e, Option.bind_some]
  rfl
theorem text_gen2 (w : UInt64 → Int) (s u rest : Str) (p x : UInt64) (hn : wire_Reader_Num ⟨s⟩ p = some (.inl (x, ⟨u ++ rest⟩))) (hw : w x = (u.length : Int)) :
    ((wire_Reader_Num ⟨s⟩ p).bind fun r0 => sm r0 (fun (ra2 : UInt64 × wire_Reader) => (wire_Reader_Bytes ra2.2 (w ra2.1)).bind fun r6 => sm r6 (fun (ra8 : Str × wire_Reader) => some (Sum.inl (ra8.1, ra8.2))) fun ((rn9, ro10) : Int × wire_Reader) => some (Sum.inr (rn9, ro10))) fun ((rn3, ro4) : Int × wire_Reader) => some (Sum.inr (rn3, ro4))) = some (.inl (u, ⟨rest⟩)) := by
  rw [hn, Option.bind_some]
  exact then_bytes u rest (w x) hw
theorem text_back (u : Str) (rest : Str) (top : Int) (h : u.length ≤ 100000) (ht : (u.length : Int) ≤ top) (ht2 : top ≤ 100000) : wire_Reader_Text ⟨enc 11 u.length ++ (u ++ rest)⟩ top = some (.inl (u, ⟨rest⟩)) := by
  have hn := num_back (toW (u.length : Int)) (toW top) (u ++ rest) (by
    obtain ⟨t, rfl⟩ : ∃ t : Nat, top = (t : Int) := ⟨top.toNat, by omega⟩
    rw [UInt64.le_iff_toNat_le, toW_len _ h, toW_len _ (by omega)]
    omega)
  rw [toW_len _ h] at hn
  unfold wire_Reader_Text
  rw [if_neg (by omega)]
  exact text_gen2 (fun x => i64 (x.toNat : Int)) _ u rest _ _ hn (by
    show i64 ((toW (u.length : Int)).toNat : Int) = _
    rw [toW_len _ h]
    exact i64_id (by omega) (by omega))

theorem WireTexts (t s : Str) (top : Int) (_ : sok t) (_ : sok s) (_ : iok top) : hawthornlaw03_WireTexts t s top = some true := by
  obtain ⟨u, hu, hul⟩ := few_some t
  obtain ⟨w, hw, _⟩ := few_some s
  obtain ⟨r, a, v, h1, h2, h3⟩ := text_rel w top
  obtain ⟨r', a', v', g1, g2, g3⟩ := flag_rel w
  obtain ⟨e1, e2⟩ := text_bytes u (by omega)
  have hb := text_back u [] (u.length : Int) (by omega) (by omega) (by omega)
  rw [List.append_nil] at hb
  have hend := end_of (y := []) h3
  have hend' := end_of (y := false) g3
  unfold hawthornlaw03_WireTexts
  rw [hu, Option.bind_some, hw, Option.bind_some, text_of _ _ _ h1, Option.bind_some, flag_of _ _ g1, Option.bind_some, h2, Option.bind_some, g2, Option.bind_some, e1, Option.bind_some, text_of _ _ _ hb, Option.bind_some, awake_true, Option.bind_some, if_pos rfl, e2, Option.bind_some]
  rw [hend, hend']
  rcases r with ⟨x, rd⟩ | ⟨e, rd⟩ <;> rcases r' with ⟨x', rd'⟩ | ⟨e', rd'⟩
  · obtain ⟨rfl, rfl⟩ := h3; obtain ⟨rfl, rfl⟩ := g3; simp [out, wire_Flag]
  · obtain ⟨rfl, rfl⟩ := h3; obtain ⟨h4, h5⟩ := g3; simp [out, wire_Flag, h4, h5]
  · obtain ⟨h4, h5⟩ := h3; obtain ⟨rfl, rfl⟩ := g3; simp [out, wire_Flag, h4, h5]
  · obtain ⟨h4, h5⟩ := h3; obtain ⟨h6, h7⟩ := g3; simp [out, wire_Flag, h4, h5, h6, h7]
end Go.Proofs.Ytgnpffbgfmeinaa.Pure
