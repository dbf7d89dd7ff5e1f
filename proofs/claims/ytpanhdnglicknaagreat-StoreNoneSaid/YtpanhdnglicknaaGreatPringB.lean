import Derived.Test.YtpanhdnglicknaaGreatW3
import Derived.Test.YtpanhdnglicknaaGreatPskZ
import Derived.Test.YtpanhdnglicknaaGreatPskP
import Derived.Test.YtpanhdnglicknaaGreatPringA
set_option linter.unusedVariables false
set_option linter.unusedSectionVars false
set_option linter.unusedSimpArgs false
set_option maxRecDepth 100000
set_option maxHeartbeats 8000000

namespace Go.Proofs.YtpanhdnglicknaaGreat.Pure
open Go Go.Proofs.YtpanhdnglicknaaGreat.Hw Go.Proofs.YtpanhdnglicknaaGreat

abbrev S0 (S : List ring_slot) (q : Nat) : ring_slot := S.getD q default
abbrev nxS (S : List ring_slot) (q : Nat) : Int := (S0 S q).next
abbrev pvS (S : List ring_slot) (q : Nat) : Int := (S0 S q).prev
abbrev lens (P : List (List Nat)) : List Int := P.map fun l => (l.length : Int)
structure Cor (k n : Nat) (S : List ring_slot) (many : List Int) (P : List (List Nat)) : Prop where
  len : S.length = k + n
  pl : P.length = k
  mn : many = lens P
  lk : ∀ (i : Nat) Q, P[i]? = some Q → Lk (nxS S) (pvS S) (i :: (Q ++ [i]))
  ow : ∀ (i : Nat) Q, P[i]? = some Q → ∀ p ∈ Q, (S0 S p).list = (i : Int)
  nd : P.flatten.Nodup
  rg : ∀ p ∈ P.flatten, k ≤ p ∧ p < k + n
theorem mem_fl {P : List (List Nat)} {i : Nat} {Q : List Nat} (h : P[i]? = some Q) {p : Nat} (hp : p ∈ Q) : p ∈ P.flatten := by
  obtain ⟨hi, rfl⟩ := List.getElem?_eq_some_iff.1 h
  exact List.mem_flatten.2 ⟨_, List.getElem_mem hi, hp⟩
theorem fl_dj {P : List (List Nat)} (hn : P.flatten.Nodup) {i j : Nat} {Q T : List Nat} (h : P[i]? = some Q) (h2 : P[j]? = some T) (hij : i ≠ j) {p : Nat} (hp : p ∈ Q) : p ∉ T := by
  intro ht
  unfold List.Nodup at hn; rw [List.pairwise_flatten] at hn
  obtain ⟨hi, rfl⟩ := List.getElem?_eq_some_iff.1 h
  obtain ⟨hj, rfl⟩ := List.getElem?_eq_some_iff.1 h2
  have := hn.2
  rw [List.pairwise_iff_getElem] at this
  rcases Nat.lt_or_ge i j with q | q
  · exact this i j hi hj q p hp p ht rfl
  · exact this j i hj hi (by omega) p ht p hp rfl
theorem fl_nd {P : List (List Nat)} (hn : P.flatten.Nodup) {i : Nat} {Q : List Nat} (h : P[i]? = some Q) : Q.Nodup := by
  unfold List.Nodup at hn; rw [List.pairwise_flatten] at hn
  obtain ⟨hi, rfl⟩ := List.getElem?_eq_some_iff.1 h
  exact hn.1 _ (List.getElem_mem hi)

/-- The last of what stands ahead of a place, and the first behind it. -/
theorem ends (i : Nat) (A : List Nat) : ∃ X a, i :: A = X ++ [a] := by
  refine ⟨(i :: A).dropLast, (i :: A).getLast (by simp), (List.dropLast_concat_getLast (by simp)).symm⟩
theorem begins (i : Nat) (B : List Nat) : ∃ b Y, B ++ [i] = b :: Y := by
  cases B with
  | nil => exact ⟨i, [], rfl⟩
  | cons b B => exact ⟨b, B ++ [i], rfl⟩

theorem lens_set {P : List (List Nat)} {i : Nat} (Q : List Nat) (x : Int) (hx : x = (Q.length : Int)) : (lens P).set i x = lens (P.set i Q) := by
  unfold lens; rw [List.map_set, hx]
theorem lens_get {P : List (List Nat)} {i : Nat} {Q : List Nat} (h : P[i]? = some Q) : gi (lens P) (i : Int) = some (Q.length : Int) := by
  unfold gi lens
  rw [if_pos (by omega)]
  simp [h]
theorem cut_eq {r : ring_Rings} {a p b i : Nat} {m : Int} (h1 : p < r.slots.length) (h2 : a < r.slots.length) (h3 : b < r.slots.length) (ha : (S0 r.slots p).prev = (a : Int)) (hb : (S0 r.slots p).next = (b : Int))
    (hl : (S0 r.slots p).list = (i : Int)) (hm : gi r.many (i : Int) = some m) :
    ∃ S', ring_Rings_cut r (p : Int) = some ⟨r.lists, S', r.free, r.at_, r.many.set i (i64 (m - 1))⟩ ∧ S'.length = r.slots.length ∧
      ∀ q, S0 S' q = ⟨(S0 r.slots q).key, (S0 r.slots q).list, if q = b then (a : Int) else (S0 r.slots q).prev, if q = a then (b : Int) else (S0 r.slots q).next⟩ := by
  unfold ring_Rings_cut
  rw [giN h1, Option.bind_some]
  simp only [ha, hb]
  rw [giN h2, Option.bind_some, lsC, giN (by rw [List.length_set]; exact h3), Option.bind_some, lsC, giN (by rw [List.length_set, List.length_set]; exact h1), Option.bind_some]
  have E : ∀ q, S0 ((r.slots.set a ⟨(S0 r.slots a).key, (S0 r.slots a).list, (S0 r.slots a).prev, (b : Int)⟩).set b ⟨(S0 (r.slots.set a ⟨(S0 r.slots a).key, (S0 r.slots a).list, (S0 r.slots a).prev, (b : Int)⟩) b).key, (S0 (r.slots.set a ⟨(S0 r.slots a).key, (S0 r.slots a).list, (S0 r.slots a).prev, (b : Int)⟩) b).list, (a : Int), (S0 (r.slots.set a ⟨(S0 r.slots a).key, (S0 r.slots a).list, (S0 r.slots a).prev, (b : Int)⟩) b).next⟩) q
      = ⟨(S0 r.slots q).key, (S0 r.slots q).list, if q = b then (a : Int) else (S0 r.slots q).prev, if q = a then (b : Int) else (S0 r.slots q).next⟩ := by
    intro q
    unfold S0
    rw [getD_set _ _ _ _ (by rw [List.length_set]; exact h3), getD_set _ _ _ _ h2, getD_set _ _ _ _ h2]
    by_cases e1 : q = b <;> by_cases e2 : q = a <;> by_cases e3 : b = a <;> simp_all
  rw [show (List.getD ((r.slots.set a ⟨(S0 r.slots a).key, (S0 r.slots a).list, (S0 r.slots a).prev, (b : Int)⟩).set b ⟨(S0 (r.slots.set a ⟨(S0 r.slots a).key, (S0 r.slots a).list, (S0 r.slots a).prev, (b : Int)⟩) b).key, (S0 (r.slots.set a ⟨(S0 r.slots a).key, (S0 r.slots a).list, (S0 r.slots a).prev, (b : Int)⟩) b).list, (a : Int), (S0 (r.slots.set a ⟨(S0 r.slots a).key, (S0 r.slots a).list, (S0 r.slots a).prev, (b : Int)⟩) b).next⟩) p default).list = (i : Int) from by have := E p; unfold S0 at this; rw [this]; exact hl]
  rw [hm, Option.bind_some, lsC]
  exact ⟨_, rfl, by simp, E⟩
theorem link_eq {r : ring_Rings} {p i c : Nat} {m : Int} (h1 : p < r.slots.length) (h2 : i < r.slots.length) (h3 : c < r.slots.length) (hc : (S0 r.slots i).next = (c : Int)) (hpi : p ≠ i)
    (hm : gi r.many (i : Int) = some m) :
    ∃ S', ring_Rings_link r (p : Int) (i : Int) = some ⟨r.lists, S', r.free, r.at_, r.many.set i (i64 (m + 1))⟩ ∧ S'.length = r.slots.length ∧
      ∀ q, S0 S' q = ⟨(S0 r.slots q).key, if q = p then (i : Int) else (S0 r.slots q).list, if q = c then (p : Int) else if q = p then (i : Int) else (S0 r.slots q).prev, if q = i then (p : Int) else if q = p then (c : Int) else (S0 r.slots q).next⟩ := by
  unfold ring_Rings_link
  rw [giN h1, Option.bind_some, giN h2, Option.bind_some]
  have L1 : ∀ x : ring_slot, p < (r.slots.set p x).length := fun x => by rw [List.length_set]; exact h1
  rw [show (List.getD r.slots i default).next = (c : Int) from hc]
  simp only [lsC, List.set_set]
  rw [giN (L1 _), Option.bind_some, getD_set _ _ _ _ h1, if_pos rfl]
  dsimp only
  rw [giN (L1 _), Option.bind_some, getD_set _ _ _ _ h1, if_pos rfl]
  dsimp only
  rw [giN (L1 _), Option.bind_some, getD_set _ _ _ _ h1, if_pos rfl]
  dsimp only
  rw [giN (by rw [List.length_set]; exact h3), Option.bind_some, lsC, giN (by rw [List.length_set, List.length_set]; exact h2), Option.bind_some, hm, Option.bind_some]
  refine ⟨_, rfl, by simp, fun q => ?_⟩
  unfold S0
  have g1 : ∀ (x : ring_slot) q, (r.slots.set p x).getD q default = if q = p then x else r.slots.getD q default := fun x q => getD_set _ _ _ _ h1
  have g2 : ∀ (x y : ring_slot) q, ((r.slots.set p x).set c y).getD q default = if q = c then y else (r.slots.set p x).getD q default := fun x y q => getD_set _ _ _ _ (by rw [List.length_set]; exact h3)
  have g3 : ∀ (x y z : ring_slot) q, (((r.slots.set p x).set c y).set i z).getD q default = if q = i then z else ((r.slots.set p x).set c y).getD q default := fun x y z q => getD_set _ _ _ _ (by rw [List.length_set, List.length_set]; exact h2)
  simp only [g3, g2, g1]
  by_cases e1 : q = i <;> by_cases e2 : q = c <;> by_cases e3 : q = p <;> by_cases e4 : c = p <;> by_cases e5 : i = c <;> by_cases e6 : i = p <;> simp_all
end Go.Proofs.YtpanhdnglicknaaGreat.Pure
