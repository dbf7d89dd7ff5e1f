import Derived.Test.YthngfieikhillaaW9
import Derived.Test.YthngfieikhillaaPwireS
import Derived.Test.YthngfieikhillaaPclA
import Derived.Test.YthngfieikhillaaPclT
import Derived.Test.YthngfieikhillaaPsealA
import Derived.Test.YthngfieikhillaaPsealB
import Derived.Test.YthngfieikhillaaPsealC
import Derived.Test.YthngfieikhillaaPsealD
import Derived.Test.YthngfieikhillaaPsealE
import Derived.Test.YthngfieikhillaaPsealF
set_option linter.unusedVariables false
set_option linter.unusedSectionVars false
set_option linter.unusedSimpArgs false
set_option maxRecDepth 100000
set_option maxHeartbeats 8000000

namespace Go.Proofs.Ythngfieikhillaa.Pure
open Go Go.Proofs.Ythngfieikhillaa.Hw Go.Proofs.Ythngfieikhillaa

/-- What bytes say, whatever they are. -/
theorem get_cases (s : Str) (hs : s.length ≤ 2500) : ∃ x e, say_Get s = some (x, e) ∧ (e = 0 → say_Put x = some s ∧ x.Records.length ≤ 16 ∧ x.Sums.length ≤ 16) := by
  unfold say_Get say_Get_1
  rcases rd_say s (by omega) with ⟨x, t, p, f1, e1, q1⟩ | ⟨e, o, f1, he⟩
  · rw [f1, Option.bind_some]
    dsimp only [sm]
    rw [Option.bind_some]
    dsimp only [sm]
    rw [Option.bind_some]
    cases t with
    | nil =>
      rw [if_neg (by simp)]
      exact ⟨_, _, rfl, fun _ => ⟨by rw [q1.1, e1, List.append_nil], q1.2⟩⟩
    | cons c t =>
      rw [if_pos (by simp)]
      exact ⟨_, _, rfl, fun h => absurd h (by simp)⟩
  · rw [f1, Option.bind_some]
    dsimp only [sm]
    rw [Option.bind_some]
    dsimp only [sm]
    rw [Option.bind_some]
    dsimp only
    rw [if_pos (by simpa using he)]
    exact ⟨_, _, rfl, fun h => absurd h he⟩
theorem open_bad (f : Str) (u : Str) (e : Int) (h : wire_Open f = some (u, e)) (he : e ≠ 0) : ∃ y, say_Open f = some (y, e) := by
  unfold say_Open
  rw [h, Option.bind_some]
  dsimp only
  rw [if_pos (by simpa using he)]
  exact ⟨_, rfl⟩
theorem SaySeals (s : Str) (at_ : Int) (bits : UInt8) {p : Prop} (_ : p) (ha : iok at_) : hawthornlaw18_SaySeals s at_ bits = some true := by
  obtain ⟨t, ht, hl⟩ := few18 s
  obtain ⟨x, e, hg, hx⟩ := get_cases t hl
  unfold hawthornlaw18_SaySeals
  rw [ht, Option.bind_some, hg, Option.bind_some, awake18, Option.bind_some]
  dsimp only
  by_cases he : e = 0
  · subst he
    obtain ⟨hp, hr, hs⟩ := hx rfl
    obtain ⟨F, f1, f2, f3, f4, f5, q, f6, f7⟩ := frame_back t (by omega)
    have hsl : say_Seal x = some (F, 0) := by unfold say_Seal; rw [hp, Option.bind_some, f1, Option.bind_some]
    have opn : say_Open F = some (x, 0) := by unfold say_Open; rw [f3, Option.bind_some, if_neg (by simp), hg, Option.bind_some]
    rw [if_neg (by decide), hsl, Option.bind_some, opn, Option.bind_some]
    dsimp only
    rw [if_neg (by decide), same_self x (by omega) (by omega), Option.bind_some, if_pos rfl, f2, Option.bind_some, Option.bind_some, Option.bind_some, if_neg (by simp)]
    by_cases hb : (bits == 0) = true
    · rw [if_pos hb]
    · rw [if_neg hb, if_pos (by simp [maxLen]; omega), if_pos (by omega)]
      obtain ⟨p0, p1⟩ := place_at at_ (F.length : Int) (by omega) (by omega) ha
      generalize (i64 (at_.tmod (F.length : Int) + (F.length : Int))).tmod (F.length : Int) = k at p0 p1
      obtain ⟨k, rfl⟩ : ∃ j : Nat, k = (j : Int) := ⟨k.toNat, by omega⟩
      have hk : k < F.length := by omega
      rw [giL hk, Option.bind_some]
      have hls : ls F (k : Int) (F[k] ^^^ bits) = F.set k (F[k] ^^^ bits) := rfl
      rw [hls]
      have hb0 : bits ≠ 0 := fun h => hb (by simp [h])
      have hne : F[k] ^^^ bits ≠ F[k] := fun h => hb0 (by
        have h2 : F[k] ^^^ bits = F[k] ^^^ 0 := by rw [h]; simp
        exact (UInt8.xor_right_inj _).1 h2)
      have hPl : F.length - 4 = ([49] ++ (enc 11 t.length ++ t)).length := by rw [f6, sumL]; omega
      have hd : F.drop (F.length - 4) = wire_sum q := by
        rw [hPl]; conv => lhs; rw [f6]
        rw [List.drop_left]
      have htk : F.take (F.length - 4) = [49] ++ (enc 11 t.length ++ t) := by
        rw [hPl]; conv => lhs; rw [f6]
        rw [List.take_left]
      have hno := spoilt F k (F[k] ^^^ bits) hk hne (by omega) q (by omega) (by rw [htk]; exact f7) hd
      obtain ⟨u, e', h1, _⟩ := open_tot (F.set k (F[k] ^^^ bits)) (by simp; omega)
      have he' : e' ≠ 0 := fun h => hno u (by rw [← h]; exact h1)
      obtain ⟨y, h2⟩ := open_bad _ u e' h1 he'
      rw [h2, Option.bind_some]
      simpa using he'
  · rw [if_pos (by simpa using he)]
end Go.Proofs.Ythngfieikhillaa.Pure
