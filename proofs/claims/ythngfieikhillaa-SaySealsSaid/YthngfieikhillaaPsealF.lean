import Derived.Test.YthngfieikhillaaW9
import Derived.Test.YthngfieikhillaaPwireS
import Derived.Test.YthngfieikhillaaPclA
import Derived.Test.YthngfieikhillaaPclT
import Derived.Test.YthngfieikhillaaPsealA
import Derived.Test.YthngfieikhillaaPsealB
import Derived.Test.YthngfieikhillaaPsealC
import Derived.Test.YthngfieikhillaaPsealD
import Derived.Test.YthngfieikhillaaPsealE
set_option linter.unusedVariables false
set_option linter.unusedSectionVars false
set_option linter.unusedSimpArgs false
set_option maxRecDepth 100000
set_option maxHeartbeats 8000000

namespace Go.Proofs.Ythngfieikhillaa.Pure
open Go Go.Proofs.Ythngfieikhillaa.Hw Go.Proofs.Ythngfieikhillaa

theorem open_tot (f : Str) (hf : f.length ≤ 90000) : ∃ u e, wire_Open f = some (u, e) ∧ (e = 0 → 4 ≤ f.length ∧ ∃ q, wire_Check (f.take (f.length - 4)) = some q ∧ f.drop (f.length - 4) = wire_sum q) := by
  have fin : ∀ (e : Int) (o : wire_Reader × Str), e ≠ 0 → open1 (fun l => i64 (i64 ((f.length : Int) - 4) - l)) ⟨f⟩ [] f = some (.inr (e, o)) → ∃ u e, wire_Open f = some (u, e) ∧ (e = 0 → 4 ≤ f.length ∧ ∃ q, wire_Check (f.take (f.length - 4)) = some q ∧ f.drop (f.length - 4) = wire_sum q) := by
    intro e o he h
    unfold wire_Open
    rw [open1_eq, h, Option.bind_some]
    dsimp only [sm]
    rw [Option.bind_some]
    dsimp only
    rw [if_pos (by simpa using he)]
    exact ⟨_, _, rfl, fun h => absurd h he⟩
  have fin2 : ∀ (t u : Str), open1 (fun l => i64 (i64 ((f.length : Int) - 4) - l)) ⟨f⟩ [] f = some (.inl (⟨t⟩, u)) → (t = [] → 4 ≤ f.length ∧ ∃ q, wire_Check (f.take (f.length - 4)) = some q ∧ f.drop (f.length - 4) = wire_sum q) → ∃ u e, wire_Open f = some (u, e) ∧ (e = 0 → 4 ≤ f.length ∧ ∃ q, wire_Check (f.take (f.length - 4)) = some q ∧ f.drop (f.length - 4) = wire_sum q) := by
    intro t u h ht
    unfold wire_Open
    rw [open1_eq, h, Option.bind_some]
    dsimp only [sm]
    rw [Option.bind_some]
    cases t with
    | nil => exact ⟨_, _, rfl, fun _ => ht rfl⟩
    | cons c t => exact ⟨_, _, rfl, fun h => absurd h (by simp)⟩
  have place : ∀ l : Nat, l + 4 ≤ f.length → i64 (i64 ((f.length : Int) - 4) - (l : Int)) = (f.length : Int) - 4 - l := fun l hl => place_ok _ _ hl (by omega)
  generalize hw : (fun l => i64 (i64 ((f.length : Int) - 4) - l)) = w at fin fin2
  have hwp : ∀ l : Nat, l + 4 ≤ f.length → w (l : Int) = (f.length : Int) - 4 - l := fun l hl => by rw [← hw]; exact place l hl
  rcases rd_bytes f 1 1 rfl with ⟨x, t1, p1, f1, e1, q1⟩ | ⟨e, o, f1, he⟩
  case' inr => exact fin e (o, []) he (by unfold open1; rw [f1, Option.bind_some]; first | done | rfl)
  obtain ⟨rfl, q1⟩ := q1
  match p1, q1 with
  | [c], _ =>
    cases hc : (c == 49) with
    | false => exact fin 6 (⟨t1⟩, []) (by decide) (by unfold open1; rw [f1, Option.bind_some]; dsimp only [sm]; rw [show gi [c] 0 = some c from rfl, Option.bind_some, ltq, hc, must_no])
    | true =>
      rcases rd_text t1 65536 (by decide) with ⟨x, t2, p2, f2, e2, q2⟩ | ⟨e, o, f2, he⟩
      case' inr => exact fin e (o, []) he (by
        unfold open1; rw [f1, Option.bind_some]; dsimp only [sm]; rw [show gi [c] 0 = some c from rfl, Option.bind_some, ltq, hc, must_ok]; dsimp only [sm]
        rw [show wire_Reader_Text ⟨t1⟩ 65536 = _ from f2, Option.bind_some]; first | done | rfl)
      rcases rd_bytes t2 4 4 rfl with ⟨s4, t3, p3, f3, e3, q3⟩ | ⟨e, o, f3, he⟩
      case' inr => exact fin e (o, x) he (by
        unfold open1; rw [f1, Option.bind_some]; dsimp only [sm]; rw [show gi [c] 0 = some c from rfl, Option.bind_some, ltq, hc, must_ok]; dsimp only [sm]
        rw [show wire_Reader_Text ⟨t1⟩ 65536 = _ from f2, Option.bind_some]; dsimp only [sm]; rw [f3, Option.bind_some]; first | done | rfl)
      obtain ⟨rfl, q3⟩ := q3
      have hl : f.length = 1 + p2.length + 4 + t3.length := by
        rw [e1, e2, e3]; simp [q3]; omega
      have hp := hwp t3.length (by omega)
      have hsl : sl f 0 (w (t3.length : Int)) = some (f.take (f.length - 4 - t3.length)) := by
        rw [hp, sl_lo (by omega) (by omega)]; congr 2; omega
      obtain ⟨q, hq, _⟩ := check_eq (f.take (f.length - 4 - t3.length)) (by simp; omega)
      have run : ∀ b, (p3 == wire_sum q) = b → open1 w ⟨f⟩ [] f = sm (wire_Reader_Must ⟨t3⟩ b) (fun (_ : Unit) => some (Sum.inl (⟨t3⟩, x))) fun ((rn33, _) : Int × Unit) => some (Sum.inr (rn33, (⟨t3⟩, x))) := by
        intro b hb
        unfold open1; rw [f1, Option.bind_some]; dsimp only [sm]; rw [show gi [c] 0 = some c from rfl, Option.bind_some, ltq, hc, must_ok]; dsimp only [sm]
        rw [show wire_Reader_Text ⟨t1⟩ 65536 = _ from f2, Option.bind_some]; dsimp only [sm]; rw [f3, Option.bind_some]; dsimp only [sm]
        rw [show wire_Reader_Left ⟨t3⟩ = (t3.length : Int) from rfl, hsl, Option.bind_some, hq, Option.bind_some, ltq, hb]
      cases hb : (p3 == wire_sum q) with
      | false => exact fin 6 (⟨t3⟩, x) (by decide) (by rw [run _ hb, must_no]; first | done | rfl)
      | true =>
        refine fin2 t3 x (by rw [run _ hb, must_ok]; first | done | rfl) fun ht => ?_
        subst ht
        refine ⟨by omega, q, by simpa using hq, ?_⟩
        rw [← eq_of_beq hb]
        have : f = ([c] ++ p2) ++ p3 := by rw [e1, e2, e3]; simp
        have hlen : f.length - 4 = ([c] ++ p2).length := by simp at hl ⊢; omega
        rw [hlen]
        conv => lhs; rw [this]
        rw [List.drop_left]
theorem open_inv (f s : Str) (hf : f.length ≤ 90000) (h : wire_Open f = some (s, 0)) : 4 ≤ f.length ∧ ∃ q, wire_Check (f.take (f.length - 4)) = some q ∧ f.drop (f.length - 4) = wire_sum q := by
  obtain ⟨u, e, h1, h2⟩ := open_tot f hf
  rw [h] at h1
  cases h1
  exact h2 rfl
theorem spoilt (f : Str) (k : Nat) (y : UInt8) (hk : k < f.length) (hy : y ≠ f[k]) (hl : f.length ≤ 90000) (q : UInt32) (h4 : 4 ≤ f.length)
    (hq : wire_Check (f.take (f.length - 4)) = some q) (hs : f.drop (f.length - 4) = wire_sum q) (t : Str) : wire_Open (f.set k y) ≠ some (t, 0) := fun h => by
  obtain ⟨_, q', h1, h2⟩ := open_inv (f.set k y) t (by simpa using hl) h
  rw [List.length_set] at h1 h2
  by_cases hp : k < f.length - 4
  · have e1 : (f.set k y).drop (f.length - 4) = f.drop (f.length - 4) := List.drop_set_of_lt hp
    rw [e1, hs] at h2
    have := sum_inj _ _ h2
    subst this
    have e2 : (f.set k y).take (f.length - 4) = (f.take (f.length - 4)).set k y := List.take_set
    rw [e2] at h1
    have hk' : k < (f.take (f.length - 4)).length := by simp; omega
    obtain ⟨s1, s2⟩ := set_split (f.take (f.length - 4)) k y hk'
    rw [s2] at h1
    rw [s1] at hq
    have := check_apart _ _ _ _ (by simp; omega) q hq h1
    apply hy
    rw [← this]
    simp
  · have e1 : (f.set k y).take (f.length - 4) = f.take (f.length - 4) := List.take_set_of_le (by omega)
    rw [e1, hq] at h1
    cases h1
    rw [← hs] at h2
    have h3 := congrArg (fun l => l[k - (f.length - 4)]?) h2
    simp only [List.getElem?_drop] at h3
    rw [show f.length - 4 + (k - (f.length - 4)) = k by omega, List.getElem?_set_self hk, List.getElem?_eq_getElem hk] at h3
    exact hy (Option.some.inj h3)
theorem place_at (a n : Int) (hn : 0 < n) (hm : n ≤ 100000) (ha : iok a) : 0 ≤ (i64 (a.tmod n + n)).tmod n ∧ (i64 (a.tmod n + n)).tmod n < n := by
  have h1 : a.tmod n < n := Int.tmod_lt_of_pos a hn
  have h2 : -n < a.tmod n := by
    have := Int.tmod_lt_of_pos (-a) hn
    rw [Int.neg_tmod] at this
    omega
  rw [i64_id (by omega) (by omega)]
  exact ⟨Int.tmod_nonneg _ (by omega), Int.tmod_lt_of_pos _ hn⟩
theorem few18 (x : Str) : ∃ r, (if decide ((2500 : Int) < (x.length : Int)) then (sl x 0 2500).bind fun s93 => some s93 else some x) = some r ∧ r.length ≤ 2500 := by
  by_cases h : 2500 < x.length
  · rw [if_pos (by simp; omega), sl_lo (by omega) (by omega), Option.bind_some]
    exact ⟨_, rfl, by simp; omega⟩
  · rw [if_neg (by simp; omega)]
    exact ⟨_, rfl, by omega⟩
theorem awake18 : hawthornlaw18_awake = some true := by decide +kernel
theorem same0 (x : api_Say) (hl : x.Sums.length ≤ 100000) : ∀ (f i : Nat), f = x.Sums.length - i + 1 → i ≤ x.Sums.length → hawthornref18_Same_l0 x x f (i : Int) = some (.inl ()) := by
  intro f
  induction f with
  | zero => intro i h; omega
  | succ f ih =>
    intro i hf hi
    unfold hawthornref18_Same_l0
    by_cases q : i < x.Sums.length
    · rw [if_pos (by simpa using q), giL q, Option.bind_some, Option.bind_some, if_neg (by simp), i64s _ (by omega) (by omega)]
      exact ih (i + 1) (by omega) (by omega)
    · rw [if_neg (by simpa using q)]
theorem same1 (x : api_Say) (hl : x.Records.length ≤ 100000) : ∀ (f i : Nat), f = x.Records.length - i + 1 → i ≤ x.Records.length → hawthornref18_Same_l1 x x f (i : Int) = some (.inl ()) := by
  intro f
  induction f with
  | zero => intro i h; omega
  | succ f ih =>
    intro i hf hi
    unfold hawthornref18_Same_l1
    by_cases q : i < x.Records.length
    · rw [if_pos (by simpa using q), giL q, Option.bind_some, Option.bind_some, if_neg (by simp), i64s _ (by omega) (by omega)]
      exact ih (i + 1) (by omega) (by omega)
    · rw [if_neg (by simpa using q)]
theorem same_self (x : api_Say) (h1 : x.Sums.length ≤ 100000) (h2 : x.Records.length ≤ 100000) : hawthornref18_Same x x = some true := by
  have e1 : hawthornref18_Same_l1 x x (((x.Records.length : Int) - 0).toNat + 1) 0 = some (.inl ()) := same1 x h2 _ 0 (by omega) (by omega)
  have e0 : hawthornref18_Same_l0 x x (((x.Sums.length : Int) - 0).toNat + 1) 0 = some (.inl ()) := same0 x h1 _ 0 (by omega) (by omega)
  unfold hawthornref18_Same
  rw [if_neg (by simp), e1, Option.bind_some]
  dsimp only
  rw [e0, Option.bind_some]
  simp
end Go.Proofs.Ythngfieikhillaa.Pure
