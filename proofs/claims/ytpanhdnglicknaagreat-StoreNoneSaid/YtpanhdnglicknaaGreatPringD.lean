import Derived.Test.YtpanhdnglicknaaGreatW3
import Derived.Test.YtpanhdnglicknaaGreatPskZ
import Derived.Test.YtpanhdnglicknaaGreatPskP
import Derived.Test.YtpanhdnglicknaaGreatPringA
import Derived.Test.YtpanhdnglicknaaGreatPringB
import Derived.Test.YtpanhdnglicknaaGreatPringC
set_option linter.unusedVariables false
set_option linter.unusedSectionVars false
set_option linter.unusedSimpArgs false
set_option maxRecDepth 100000
set_option maxHeartbeats 8000000

namespace Go.Proofs.YtpanhdnglicknaaGreat.Pure
open Go Go.Proofs.YtpanhdnglicknaaGreat.Hw Go.Proofs.YtpanhdnglicknaaGreat

/-! the rings as lists of keys -/
abbrev ky (S : List ring_slot) (p : Nat) : Str := (S0 S p).key
def keysOf (S : List ring_slot) (P : List (List Nat)) : List (List Str) := P.map fun l => l.map (ky S)
theorem keys_cg {S S' : List ring_slot} {P : List (List Nat)} (h : ∀ p ∈ P.flatten, ky S' p = ky S p) : keysOf S' P = keysOf S P := by
  unfold keysOf
  refine List.map_congr_left fun l hl => List.map_congr_left fun p hp => h p (List.mem_flatten.2 ⟨l, hl, hp⟩)
theorem keys_set (S : List ring_slot) (P : List (List Nat)) (i : Nat) (Q : List Nat) : keysOf S (P.set i Q) = (keysOf S P).set i (Q.map (ky S)) := by
  unfold keysOf; rw [List.map_set]
theorem keys_fl (S : List ring_slot) (P : List (List Nat)) : (keysOf S P).flatten = P.flatten.map (ky S) := by
  unfold keysOf; rw [List.map_flatten]
theorem keys_get {S : List ring_slot} {P : List (List Nat)} {i : Nat} {l : List Str} (h : (keysOf S P)[i]? = some l) : ∃ Q, P[i]? = some Q ∧ l = Q.map (ky S) := by
  unfold keysOf at h
  rw [List.getElem?_map] at h
  cases e : P[i]? with
  | none => rw [e] at h; cases h
  | some Q => rw [e] at h; cases h; exact ⟨Q, rfl, rfl⟩
theorem keys_get' (S : List ring_slot) {P : List (List Nat)} {i : Nat} {Q : List Nat} (h : P[i]? = some Q) : (keysOf S P)[i]? = some (Q.map (ky S)) := by
  unfold keysOf; rw [List.getElem?_map, h]; rfl
structure Rg (k n : Nat) (r : ring_Rings) (P : List (List Nat)) (f : List Nat) : Prop where
  co : Cor k n r.slots r.many P
  hl : r.lists = (k : Int)
  fr : r.free = f.map fun (p : Nat) => (p : Int)
  pm : (P.flatten ++ f).Nodup
  fg : ∀ p ∈ f, k ≤ p ∧ p < k + n
  ct : P.flatten.length + f.length = n
  uk : Uk r.at_
  at1 : ∀ key v, mget r.at_ key = some v ↔ ∃ p ∈ P.flatten, v = (p : Int) ∧ ky r.slots p = key
  kl : ∀ p ∈ P.flatten, (ky r.slots p).length ≤ 64
def RR (k n : Nat) (r : ring_Rings) (L : List (List Str)) : Prop := ∃ P f, Rg k n r P f ∧ L = keysOf r.slots P
/-- The lists without a key. -/
def rmK (L : List (List Str)) (key : Str) : List (List Str) := L.map fun l => l.filter fun x => !(x == key)
/-- .. with it at the front of one. -/
def frK (L : List (List Str)) (i : Nat) (key : Str) : List (List Str) := (rmK L key).set i (key :: (rmK L key).getD i [])
theorem filter_no {l : List Str} {key : Str} (h : key ∉ l) : l.filter (fun x => !(x == key)) = l := by
  rw [List.filter_eq_self]
  intro a ha
  simp only [Bool.not_eq_true', beq_eq_false_iff_ne, ne_eq]
  rintro rfl; exact h ha
theorem rmK_no {L : List (List Str)} {key : Str} (h : key ∉ L.flatten) : rmK L key = L := by
  unfold rmK
  conv => rhs; rw [← List.map_id L]
  refine List.map_congr_left fun l hl => filter_no fun hm => h (List.mem_flatten.2 ⟨l, hl, hm⟩)
theorem rmK_set {L : List (List Str)} {key : Str} {i : Nat} {a b : List Str} (hn : L.flatten.Nodup) (h : L[i]? = some (a ++ key :: b)) : rmK L key = L.set i (a ++ b) := by
  obtain ⟨U, V, e1, e3, e2⟩ := dec h
  rw [e2]
  rw [e1] at hn ⊢
  have pm : (U ++ (a ++ key :: b) :: V).flatten.Perm (key :: (U.flatten ++ (a ++ (b ++ V.flatten)))) := by
    simp only [List.flatten_append, List.flatten_cons]
    refine List.perm_iff_count.2 fun x => ?_
    simp only [List.count_append, List.count_cons]; omega
  have hk := (List.nodup_cons.1 (pm.nodup_iff.1 hn)).1
  simp only [List.mem_append, not_or] at hk
  have h1 := rmK_no (L := U) hk.1
  have h2 := rmK_no (L := V) hk.2.2.2
  unfold rmK at h1 h2 ⊢
  rw [List.map_append, List.map_cons, h1, h2, List.filter_append, List.filter_cons, if_neg (by simp), filter_no hk.2.1, filter_no hk.2.2.1]

section
variable {k n : Nat} {r : ring_Rings} {L : List (List Str)} {P : List (List Nat)} {f : List Nat}
theorem Rg.inj (h : Rg k n r P f) {p q : Nat} (hp : p ∈ P.flatten) (hq : q ∈ P.flatten) (e : ky r.slots p = ky r.slots q) : p = q := by
  have h1 := (h.at1 (ky r.slots p) p).2 ⟨p, hp, rfl, rfl⟩
  have h2 := (h.at1 (ky r.slots p) q).2 ⟨q, hq, rfl, e.symm⟩
  rw [h1] at h2
  simp at h2; omega
theorem Rg.nd (h : Rg k n r P f) : (keysOf r.slots P).flatten.Nodup := by
  rw [keys_fl]
  have := h.co.nd
  unfold List.Nodup at this ⊢
  rw [List.pairwise_map]
  refine List.Pairwise.imp_of_mem (fun ha hb hab e => hab (h.inj ha hb e)) this
theorem RR.nd (h : RR k n r L) : L.flatten.Nodup := by obtain ⟨P, f, h, rfl⟩ := h; exact h.nd
theorem RR.len (h : RR k n r L) : L.length = k := by obtain ⟨P, f, h, rfl⟩ := h; rw [keysOf, List.length_map, h.co.pl]
theorem RR.tot (h : RR k n r L) : L.flatten.length + r.free.length = n := by obtain ⟨P, f, h, rfl⟩ := h; rw [keys_fl, List.length_map, h.fr, List.length_map]; exact h.ct
theorem RR.kl (h : RR k n r L) : ∀ x ∈ L.flatten, x.length ≤ 64 := by
  obtain ⟨P, f, h, rfl⟩ := h
  rw [keys_fl]
  intro x hx
  obtain ⟨p, hp, rfl⟩ := List.mem_map.1 hx
  exact h.kl p hp
theorem RR.is (h : RR k n r L) (i : Nat) : ring_Rings_is r (i : Int) = decide (i < k) := by
  obtain ⟨P, f, h, rfl⟩ := h
  unfold ring_Rings_is; rw [h.hl]; simp
theorem RR.Len (h : RR k n r L) {i : Nat} {l : List Str} (hl : L[i]? = some l) : ring_Rings_Len r (i : Int) = some (l.length : Int) := by
  have hi : i < k := by have := (List.getElem?_eq_some_iff.1 hl).1; have := h.len; omega
  have his := h.is i
  obtain ⟨P, f, h, rfl⟩ := h
  obtain ⟨Q, hQ, rfl⟩ := keys_get hl
  unfold ring_Rings_Len
  rw [his, if_neg (by simp [hi]), h.co.mn, lens_get hQ, Option.bind_some]
  simp
theorem RR.in_none (h : RR k n r L) {key : Str} (hk : key ∉ L.flatten) : ring_Rings_In r key = some (0, false) := by
  obtain ⟨P, f, h, rfl⟩ := h
  rw [keys_fl] at hk
  have : mget r.at_ key = none := by
    cases e : mget r.at_ key with
    | none => rfl
    | some v =>
      obtain ⟨p, hp, _, rfl⟩ := (h.at1 key v).1 e
      exact absurd (List.mem_map_of_mem hp) hk
  unfold ring_Rings_In
  rw [this, if_pos (by simp)]
theorem RR.in_some (h : RR k n r L) {key : Str} {i : Nat} {l : List Str} (hl : L[i]? = some l) (hk : key ∈ l) : ring_Rings_In r key = some ((i : Int), true) := by
  obtain ⟨P, f, h, rfl⟩ := h
  obtain ⟨Q, hQ, rfl⟩ := keys_get hl
  obtain ⟨p, hp, rfl⟩ := List.mem_map.1 hk
  have hm := mem_fl hQ hp
  have := (h.at1 (ky r.slots p) p).2 ⟨p, hm, rfl, rfl⟩
  unfold ring_Rings_In
  rw [this, if_neg (by simp), Option.getD_some, giN (by rw [h.co.len]; exact (h.co.rg p hm).2), Option.bind_some]
  have := h.co.ow i Q hQ p hp
  unfold S0 at this
  rw [this]
theorem RR.Back0 (h : RR k n r L) {i : Nat} (hl : L[i]? = some []) : ring_Rings_Back r (i : Int) = some ([], false) := by
  unfold ring_Rings_Back
  rw [h.Len hl, Option.bind_some]
  rfl
theorem RR.Back (h : RR k n r L) {i : Nat} {l : List Str} {x : Str} (hl : L[i]? = some (l ++ [x])) : ring_Rings_Back r (i : Int) = some (x, true) := by
  have e := h.Len hl
  obtain ⟨P, f, h, rfl⟩ := h
  obtain ⟨Q, hQ, e2⟩ := keys_get hl
  have hQ2 : ∃ Q' p, Q = Q' ++ [p] ∧ x = ky r.slots p := by
    have : Q ≠ [] := by rintro rfl; simp at e2
    refine ⟨Q.dropLast, Q.getLast this, (List.dropLast_concat_getLast this).symm, ?_⟩
    rw [← List.dropLast_concat_getLast this, List.map_append] at e2
    have := List.append_inj_right' e2 (by simp)
    simpa using this
  obtain ⟨Q', p, rfl, rfl⟩ := hQ2
  have hm := mem_fl hQ (p := p) (by simp)
  have lk := h.co.lk i _ hQ
  rw [show i :: ((Q' ++ [p]) ++ [i]) = (i :: Q') ++ p :: i :: [] by simp] at lk
  have hp := ((lk_app _ _ _ _).1 lk).2.2.1
  have hi : i < k := h.co.ikl hQ
  unfold ring_Rings_Back
  rw [e, Option.bind_some, if_neg (by simp; omega), giN (by rw [h.co.len]; omega), Option.bind_some]
  unfold pvS S0 at hp
  rw [hp, giN (by rw [h.co.len]; exact (h.co.rg p hm).2), Option.bind_some]
end
end Go.Proofs.YtpanhdnglicknaaGreat.Pure
