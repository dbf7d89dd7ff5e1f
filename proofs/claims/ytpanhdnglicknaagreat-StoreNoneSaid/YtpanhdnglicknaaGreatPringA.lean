import Derived.Test.YtpanhdnglicknaaGreatW3
import Derived.Test.YtpanhdnglicknaaGreatPskZ
import Derived.Test.YtpanhdnglicknaaGreatPskP
set_option linter.unusedVariables false
set_option linter.unusedSectionVars false
set_option linter.unusedSimpArgs false
set_option maxRecDepth 100000
set_option maxHeartbeats 8000000

namespace Go.Proofs.YtpanhdnglicknaaGreat.Pure
open Go Go.Proofs.YtpanhdnglicknaaGreat.Hw Go.Proofs.YtpanhdnglicknaaGreat

/-! maps as rows of pairs -/
section
variable {K V : Type} [BEq K] [LawfulBEq K]
theorem mget_put (m : List (K × V)) (k k' : K) (v : V) : mget (mput m k v) k' = if k' == k then some v else mget m k' := by
  induction m with
  | nil => simp [mput, mget]
  | cons p m ih =>
    obtain ⟨a, u⟩ := p
    unfold mput
    by_cases h : (k == a) = true
    · have := eq_of_beq h; subst this
      rw [if_pos h]; simp only [mget]
      split <;> rfl
    · rw [if_neg h]; simp only [mget]
      rw [ih]
      by_cases h2 : (k' == a) = true
      · have := eq_of_beq h2; subst this
        have h3 : (k' == k) = false := by
          cases e : k' == k with
          | false => rfl
          | true => have := eq_of_beq e; subst this; exact absurd h2 h
        simp [h3]
      · simp [h2]
def Uk (m : List (K × V)) : Prop := (m.map (·.1)).Nodup
theorem mget_none (m : List (K × V)) (k : K) : mget m k = none ↔ k ∉ m.map (·.1) := by
  induction m with
  | nil => simp [mget]
  | cons p m ih =>
    obtain ⟨a, u⟩ := p
    simp only [mget, List.map_cons, List.mem_cons, not_or]
    by_cases h : (k == a) = true
    · simp [h, eq_of_beq h]
    · rw [if_neg h, ih]
      constructor
      · exact fun q => ⟨fun e => h (by simp [e]), q⟩
      · exact fun q => q.2
theorem mget_del (m : List (K × V)) (k k' : K) (hu : Uk m) : mget (mdel m k) k' = if k' == k then none else mget m k' := by
  induction m with
  | nil => simp [mdel, mget]
  | cons p m ih =>
    obtain ⟨a, u⟩ := p
    unfold Uk at hu ih
    simp only [List.map_cons, List.nodup_cons] at hu
    unfold mdel
    by_cases h : (k == a) = true
    · have := eq_of_beq h; subst this
      rw [if_pos h]; simp only [mget]
      by_cases h2 : (k' == k) = true
      · have := eq_of_beq h2; subst this
        rw [if_pos h2]; exact (mget_none _ _).2 hu.1
      · rw [if_neg h2, if_neg h2]
    · rw [if_neg h]; simp only [mget]
      rw [ih hu.2]
      by_cases h2 : (k' == a) = true
      · have := eq_of_beq h2; subst this
        have h3 : (k' == k) = false := by
          cases e : k' == k with
          | false => rfl
          | true => have := eq_of_beq e; subst this; exact absurd h2 h
        simp [h3]
      · simp [h2]
theorem del_keys (m : List (K × V)) (k : K) : ((mdel m k).map (·.1)).Sublist (m.map (·.1)) := by
  induction m with
  | nil => simp [mdel]
  | cons p m ih =>
    obtain ⟨a, u⟩ := p
    unfold mdel
    split
    · simp
    · simpa using ih
theorem Uk.del {m : List (K × V)} (hu : Uk m) (k : K) : Uk (mdel m k) := (del_keys m k).nodup hu
theorem Uk.put {m : List (K × V)} (hu : Uk m) (k : K) (v : V) : Uk (mput m k v) := by
  induction m with
  | nil => simp [mput, Uk]
  | cons p m ih =>
    obtain ⟨a, u⟩ := p
    unfold Uk at hu ih ⊢
    simp only [List.map_cons, List.nodup_cons] at hu
    unfold mput
    by_cases h : (k == a) = true
    · have := eq_of_beq h; subst this
      rw [if_pos h]; simpa using hu
    · rw [if_neg h]
      simp only [List.map_cons, List.nodup_cons]
      refine ⟨?_, ih hu.2⟩
      rw [← mget_none, mget_put, if_neg (fun e => h (by rw [eq_of_beq e]; exact beq_self_eq_true k)), mget_none]
      exact hu.1
end

/-! rows -/
theorem giN {α : Type} [Inhabited α] {l : List α} {p : Nat} (h : p < l.length) : gi l (p : Int) = some (l.getD p default) := by
  unfold gi
  rw [if_pos (by omega), List.getD_eq_getElem?_getD]
  simp [h]
theorem lsC {α : Type} (l : List α) (p : Nat) (x : α) : ls l (p : Int) x = l.set p x := by unfold ls; simp
theorem getD_set {α : Type} [Inhabited α] (l : List α) (p q : Nat) (x : α) (h : p < l.length) : (l.set p x).getD q default = if q = p then x else l.getD q default := by
  rw [List.getD_eq_getElem?_getD, List.getElem?_set, List.getD_eq_getElem?_getD]
  by_cases e : p = q
  · subst e; simp [h]
  · rw [if_neg e, if_neg (fun h => e h.symm)]
theorem dec {α : Type} {P : List α} {i : Nat} {Q : α} (h : P[i]? = some Q) : ∃ U V, P = U ++ Q :: V ∧ U.length = i ∧ ∀ Q', P.set i Q' = U ++ Q' :: V := by
  obtain ⟨hi, e⟩ := List.getElem?_eq_some_iff.1 h
  refine ⟨P.take i, P.drop (i + 1), ?_, by simp; omega, fun Q' => ?_⟩
  · rw [← e]; simp
  · rw [List.set_eq_take_append_cons_drop, if_pos hi]

/-! linked places -/
def Lk (nx pv : Nat → Int) : List Nat → Prop
  | [] => True
  | [_] => True
  | a :: b :: t => nx a = (b : Int) ∧ pv b = (a : Int) ∧ Lk nx pv (b :: t)
section
variable {nx pv nx' pv' : Nat → Int}
theorem lk_app : ∀ (X : List Nat) (a b : Nat) (Y : List Nat), Lk nx pv (X ++ a :: b :: Y) ↔ Lk nx pv (X ++ [a]) ∧ nx a = b ∧ pv b = a ∧ Lk nx pv (b :: Y)
  | [], a, b, Y => by simp [Lk]
  | [x], a, b, Y => by simp [Lk, and_assoc]
  | x :: y :: X, a, b, Y => by
    have ih := lk_app (y :: X) a b Y
    simp only [List.cons_append, Lk] at ih ⊢
    rw [ih]; simp [and_assoc]
theorem lk_cg : ∀ {l : List Nat}, (∀ q ∈ l.dropLast, nx' q = nx q) → (∀ q ∈ l.tail, pv' q = pv q) → Lk nx pv l → Lk nx' pv' l
  | [], _, _, _ => trivial
  | [_], _, _, _ => trivial
  | a :: b :: t, h1, h2, h => by
    obtain ⟨p, q, r⟩ := h
    refine ⟨?_, ?_, lk_cg (l := b :: t) (fun x hx => h1 x ?_) (fun x hx => h2 x ?_) r⟩
    · rw [h1 a (by simp)]; exact p
    · rw [h2 b (by simp)]; exact q
    · rw [List.dropLast_cons_cons]; exact List.mem_cons_of_mem _ hx
    · simp only [List.tail_cons] at hx ⊢; exact List.mem_cons_of_mem _ hx
/-- One is taken out. -/
theorem lk_cut {X Y : List Nat} {a p b : Nat} (h : Lk nx pv (X ++ a :: p :: b :: Y)) (h1 : ∀ q, nx' q = if q = a then (b : Int) else nx q) (h2 : ∀ q, pv' q = if q = b then (a : Int) else pv q)
    (n1 : a ∉ X) (n2 : a ∉ (b :: Y).dropLast) (n3 : b ∉ Y) (n4 : b ∉ (X ++ [a]).tail) : Lk nx' pv' (X ++ a :: b :: Y) := by
  obtain ⟨k1, _, _, k2⟩ := (lk_app X a p (b :: Y)).1 h
  obtain ⟨_, _, k3⟩ := k2
  refine (lk_app X a b Y).2 ⟨lk_cg (fun q hq => ?_) (fun q hq => ?_) k1, by rw [h1, if_pos rfl], by rw [h2, if_pos rfl], lk_cg (fun q hq => ?_) (fun q hq => ?_) k3⟩
  · rw [h1, if_neg]; rintro rfl; exact n1 (by simpa using hq)
  · rw [h2, if_neg]; rintro rfl; exact n4 hq
  · rw [h1, if_neg]; rintro rfl; exact n2 hq
  · rw [h2, if_neg]; rintro rfl; exact n3 (by simpa using hq)
/-- One is put behind the first. -/
theorem lk_link {i p c : Nat} {Y : List Nat} (h : Lk nx pv (i :: c :: Y)) (h1 : ∀ q, nx' q = if q = i then (p : Int) else if q = p then (c : Int) else nx q) (h2 : ∀ q, pv' q = if q = c then (p : Int) else if q = p then (i : Int) else pv q)
    (n1 : p ≠ i) (n2 : p ≠ c) (n3 : i ∉ (c :: Y).dropLast) (n4 : p ∉ c :: Y) (n5 : c ∉ Y) : Lk nx' pv' (i :: p :: c :: Y) := by
  obtain ⟨_, _, k⟩ := h
  refine ⟨by rw [h1, if_pos rfl], by rw [h2, if_neg n2, if_pos rfl], by rw [h1, if_neg n1, if_pos rfl], by rw [h2, if_pos rfl], lk_cg (fun q hq => ?_) (fun q hq => ?_) k⟩
  · rw [h1, if_neg (by rintro rfl; exact n3 hq), if_neg (by rintro rfl; exact n4 (List.dropLast_sublist _ |>.subset hq))]
  · rw [h2, if_neg (by rintro rfl; exact n5 (by simpa using hq)), if_neg (by rintro rfl; exact n4 (List.mem_of_mem_tail hq))]
end
end Go.Proofs.YtpanhdnglicknaaGreat.Pure
