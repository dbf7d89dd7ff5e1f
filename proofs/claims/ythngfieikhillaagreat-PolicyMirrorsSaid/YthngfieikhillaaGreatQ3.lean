import Derived.Test.YthngfieikhillaaGreatW4
import Derived.Test.YthngfieikhillaaGreatQ0
import Derived.Test.YthngfieikhillaaGreatQ1
import Derived.Test.YthngfieikhillaaGreatQ2
set_option linter.unusedVariables false
set_option linter.unusedSectionVars false
set_option linter.unusedSimpArgs false
set_option maxRecDepth 100000
set_option maxHeartbeats 8000000
namespace Go.Proofs.YthngfieikhillaaGreat.Pure
open Go Go.Proofs.YthngfieikhillaaGreat.Hw
def tb (u : Str) : Str := enc 11 u.length ++ u
def kb (l : List Str) : Str := l.flatMap tb
def lb (l : List Str) : Str := enc 11 l.length ++ kb l
def rb (k m : Nat) (L : List (List Str)) : Str := (enc 11 k ++ enc 11 m) ++ L.flatMap lb
theorem kb_le : ∀ {l : List Str}, (∀ u ∈ l, u.length ≤ 64) → (kb l).length ≤ 75 * l.length
 | [], _ => by simp [kb]
 | u :: l, h => by
  have h1 := kb_le (l := l) fun v hv => h v (List.mem_cons_of_mem _ hv)
  have h2 := h u (List.mem_cons_self ..)
  have h3 := enc_len 11 u.length
  have : kb (u :: l) = tb u ++ kb l := rfl
  rw [this, List.length_append]
  unfold tb
  rw [List.length_append, List.length_cons]; omega
theorem lb_le : ∀ {L : List (List Str)}, (∀ u ∈ L.flatten, u.length ≤ 64) → (L.flatMap lb).length ≤ 75 * L.flatten.length + 11 * L.length
 | [], _ => by simp
 | l :: L, h => by
  have h1 := lb_le (L := L) fun v hv => h v (by simp only [List.flatten_cons, List.mem_append]; exact .inr hv)
  have h2 := kb_le (l := l) fun v hv => h v (by simp only [List.flatten_cons, List.mem_append]; exact .inl hv)
  have h3 := enc_len 11 l.length
  simp only [List.flatMap_cons, List.flatten_cons, List.length_append, List.length_cons]
  unfold lb
  rw [List.length_append]
  unfold lb at h1
  omega
theorem txts_ok : ∀ (l : List Str) (c : Str), (∀ u ∈ l, u.length ≤ 64) → c.length + (kb l).length ≤ maxS → CT l c = some (c ++ kb l)
 | [], c, _, _ => by simp [CT, kb]
 | u :: l, c, h, hb => by
  have e : kb (u :: l) = tb u ++ kb l := rfl
  rw [e, List.length_append] at hb
  rw [CT, (text_bytes u (by have := h u (List.mem_cons_self ..); omega)).1, Option.bind_some]
  change (if c.length + (tb u).length ≤ maxS then CT l (c ++ tb u) else none) = _
  rw [if_pos (by omega), txts_ok l _ (fun v hv => h v (List.mem_cons_of_mem _ hv)) (by rw [List.length_append]; omega), e, List.append_assoc]
theorem num_c (j : Nat) (h : j ≤ 100000) : A4 (toW (j : Int)) = some (enc 11 j) := by have := (num_enc (toW (j : Int))).1; rwa [toW_len _ h] at this
theorem num_r (j : Nat) (h : j ≤ 100000) : Bq (toW (j : Int)) = some (enc 11 j) := by have := (num_enc (toW (j : Int))).2; rwa [toW_len _ h] at this
section
variable {k m : Nat} {r : Ae} {L : List (List Str)}
theorem RR.lists (h : RR k m r L) : r.lists = (k : Int) := by obtain ⟨P, f, h, rfl⟩ := h; exact h.hl
theorem RR.slots (h : RR k m r L) : r.slots.length = k + m := by obtain ⟨P, f, h, rfl⟩ := h; exact h.co.len
theorem RR.many (h : RR k m r L) {i : Nat} {l : List Str} (hl : L[i]? = some l) : gi r.many (i : Int) = some (l.length : Int) := by
 obtain ⟨P, f, h, rfl⟩ := h
 obtain ⟨Q, hQ, rfl⟩ := keys_get hl
 rw [h.co.mn, lens_get hQ, List.length_map]
theorem RR.mem (h : RR k m r L) {i : Nat} {l : List Str} (hl : L[i]? = some l) : ∀ u ∈ l, u.length ≤ 64 := fun u hu => h.kl u (List.mem_flatten.2 ⟨l, List.mem_of_getElem? hl, hu⟩)
theorem RR.ll (h : RR k m r L) {i : Nat} {l : List Str} (hl : L[i]? = some l) : l.length ≤ m := by
 have h1 := h.tot
 obtain ⟨U, V, rfl, _⟩ := dec hl
 simp at h1
 omega
theorem exp_l0 (h : RR k m r L) (hk : k ≤ 8) (hm : m ≤ 4096) : ∀ (f i : Nat) (c : Str), k - i < f → i ≤ k → c.length + ((L.drop i).flatMap lb).length ≤ maxS →
  B8 r f (i : Int) c = some (c ++ (L.drop i).flatMap lb)
 | 0, i, c, hf, _, _ => by omega
 | f + 1, i, c, hf, hi, hc => by
  have hL := h.len
  unfold B8
  rw [h.lists]
  rcases Nat.lt_or_ge i k with h1 | h1
  ·have hl : L[i]? = some L[i] := List.getElem?_eq_getElem (by omega)
   have hll := h.ll hl
   rw [List.drop_eq_getElem_cons (by omega), List.flatMap_cons, List.length_append] at hc
   have e : (lb L[i]).length = (enc 11 L[i].length).length + (kb L[i]).length := by unfold lb; rw [List.length_append]
   rw [if_pos (by simp; exact h1), h.many hl, Option.bind_some, num_c _ (by omega), Option.bind_some, if_pos (by omega), h.Keys hl, Option.bind_some, txts_ok _ _ (h.mem hl) (by rw [List.length_append]; omega), Option.bind_some, i64n i (by omega),
    exp_l0 h hk hm f (i + 1) _ (by omega) (by omega) (by rw [List.length_append, List.length_append]; omega), List.drop_eq_getElem_cons (i := i) (by omega), List.flatMap_cons]
   simp only [lb, List.append_assoc]
  ·rw [if_neg (by simp; omega), List.drop_eq_nil_of_le (by omega)]; simp
theorem RR.size (h : RR k m r L) (hk : k ≤ 8) (hm : m ≤ 4096) : (L.flatMap lb).length ≤ 307300 := by
 have := lb_le h.kl
 have := h.tot
 have := h.len
 omega
theorem RR.Export (h : RR k m r L) (hk : k ≤ 8) (hm : m ≤ 4096) : Cd r = some (rb k m L) := by
 have hs := h.size hk hm
 have e1 := enc_len 11 k
 have e2 := enc_len 11 m
 have hM : 400000 ≤ maxS := by decide
 unfold Cd
 rw [h.lists, h.slots, num_c k (by omega), Option.bind_some, i64s _ (by omega) (by omega), show (((k + m : Nat) : Int) - (k : Int)) = (m : Int) by omega, num_c m (by omega), Option.bind_some, if_pos (by omega)]
 have := exp_l0 h hk hm (((k : Int) - 0).toNat + 1) 0 (enc 11 k ++ enc 11 m) (by omega) (by omega) (by rw [List.length_append, List.drop_zero]; omega)
 rw [show ((0 : Nat) : Int) = 0 from rfl] at this
 rw [this]; rfl
end
section
variable {L : List (List Str)}
theorem put_l1 (l : List Str) (hm : l.length ≤ 100000) (hu : ∀ u ∈ l, u.length ≤ 64) : ∀ (f j : Nat) (c : Str), l.length - j < f → j ≤ l.length → c.length + (kb (l.drop j)).length ≤ maxS →
  Cq l f c (j : Int) = some (c ++ kb (l.drop j))
 | 0, j, c, hf, _, _ => by omega
 | f + 1, j, c, hf, hj, hc => by
  unfold Cq
  rcases Nat.lt_or_ge j l.length with h1 | h1
  ·have e : kb (l.drop j) = tb l[j] ++ kb (l.drop (j + 1)) := by rw [List.drop_eq_getElem_cons h1]; rfl
   rw [e, List.length_append] at hc
   rw [if_pos (by simp; exact h1), giC, List.getElem?_eq_getElem h1, Option.bind_some, (text_bytes l[j] (by have := hu _ (List.getElem_mem h1); omega)).2, Option.bind_some]
   change (if c.length + (tb l[j]).length ≤ maxS then Cq l f (c ++ tb l[j]) (i64 ((j : Int) + 1)) else none) = _
   rw [if_pos (by omega), i64n j (by omega), put_l1 l hm hu f (j + 1) _ (by omega) (by omega) (by rw [List.length_append]; omega), e, List.append_assoc]
  ·rw [if_neg (by simp; omega), List.drop_eq_nil_of_le h1]; simp [kb]
theorem put_l0 (p : Int) (hL : L.length ≤ 1000) (hb : ∀ l ∈ L, l.length ≤ 100000) (hu : ∀ u ∈ L.flatten, u.length ≤ 64) : ∀ (f i : Nat) (c : Str), L.length - i < f → i ≤ L.length → c.length + ((L.drop i).flatMap lb).length ≤ maxS →
  CN ⟨L, p⟩ f c (i : Int) = some (c ++ (L.drop i).flatMap lb)
 | 0, i, c, hf, _, _ => by omega
 | f + 1, i, c, hf, hi, hc => by
  unfold CN
  rcases Nat.lt_or_ge i L.length with h1 | h1
  ·have hm := List.getElem_mem h1
   rw [List.drop_eq_getElem_cons h1, List.flatMap_cons, List.length_append] at hc
   have e : (lb L[i]).length = (enc 11 L[i].length).length + (kb L[i]).length := by unfold lb; rw [List.length_append]
   have hp := put_l1 L[i] (hb _ hm) (fun u hv => hu u (List.mem_flatten.2 ⟨_, hm, hv⟩)) (((L[i].length : Int) - 0).toNat + 1) 0 (c ++ enc 11 L[i].length) (by omega) (by omega) (by rw [List.length_append, List.drop_zero]; omega)
   rw [show ((0 : Nat) : Int) = 0 from rfl, List.drop_zero] at hp
   rw [if_pos (by simp; exact h1), show gi L (i : Int) = some L[i] by rw [giC]; exact List.getElem?_eq_getElem h1, Option.bind_some, num_r _ (hb _ hm), Option.bind_some, if_pos (by omega), hp, Option.bind_some, Option.bind_some, i64n i (by omega),
    put_l0 p hL hb hu f (i + 1) _ (by omega) (by omega) (by rw [List.length_append, List.length_append]; omega), List.drop_eq_getElem_cons h1, List.flatMap_cons]
   simp only [lb, List.append_assoc]
  ·rw [if_neg (by simp; omega), List.drop_eq_nil_of_le h1]; simp
theorem rPut (m : Nat) (hm : m ≤ 4096) (hL : L.length ≤ 8) (ht : L.flatten.length ≤ m) (hu : ∀ u ∈ L.flatten, u.length ≤ 64) : Cm ⟨L, (m : Int)⟩ = some (rb L.length m L) := by
 have hs := lb_le hu
 have e1 := enc_len 11 L.length
 have e2 := enc_len 11 m
 have hM : 400000 ≤ maxS := by decide
 have hb : ∀ l ∈ L, l.length ≤ 100000 := fun l hl => by
  obtain ⟨i, hi⟩ := List.mem_iff_getElem?.1 hl
  obtain ⟨U, V, rfl, _⟩ := dec hi
  simp at ht; omega
 unfold Cm
 dsimp only
 rw [num_r _ (by omega), Option.bind_some, num_r m (by omega), Option.bind_some, if_pos (by omega)]
 have := put_l0 (m : Int) (by omega) hb hu (((L.length : Int) - 0).toNat + 1) 0 (enc 11 L.length ++ enc 11 m) (by omega) (by omega) (by rw [List.length_append, List.drop_zero]; omega)
 rw [show ((0 : Nat) : Int) = 0 from rfl] at this
 rw [this]; rfl
end
end Go.Proofs.YthngfieikhillaaGreat.Pure
namespace Go.Proofs.YthngfieikhillaaGreat.Pure
open Go Go.Proofs.YthngfieikhillaaGreat.Hw
theorem tk_l2 : ∀ (l c : List Str) (f : Nat) (n : UInt64) (rest : Str), (∀ u ∈ l, u.length ≤ 64) → n.toNat = l.length → l.length < f → c.length + l.length ≤ 100000 →
  C9 f c n (kb l ++ rest) = some (.inl (c ++ l, rest))
 | [], c, 0, n, rest, _, _, h, _ => by simp at h
 | [], c, f + 1, n, rest, _, hn, _, _ => by
  have : ¬ (0 : UInt64) < n := by rw [UInt64.lt_iff_toNat_lt, hn]; simp
  unfold C9
  rw [if_neg (by simpa using this)]; simp [kb]
 | u :: l, c, 0, n, rest, _, _, h, _ => by omega
 | u :: l, c, f + 1, n, rest, hu, hn, hf, hc => by
  have h64 := hu u (List.mem_cons_self ..)
  rw [List.length_cons] at hn hf hc
  have h0 : (0 : UInt64) < n := by rw [UInt64.lt_iff_toNat_lt, hn, show (0 : UInt64).toNat = 0 by decide]; omega
  have hn1 : (n - 1).toNat = l.length := by
   rw [UInt64.toNat_sub_of_le _ _ (by rw [UInt64.le_iff_toNat_le, hn, show (1 : UInt64).toNat = 1 by decide]; omega), hn, show (1 : UInt64).toNat = 1 by decide]; omega
  have e : kb (u :: l) ++ rest = enc 11 u.length ++ (u ++ (kb l ++ rest)) := by
   show (tb u ++ kb l) ++ rest = _
   unfold tb; simp only [List.append_assoc]
  unfold C9
  rw [if_pos (by simpa using h0), e, text_back u (kb l ++ rest) 64 (by omega) (by omega) (by omega), Option.bind_some, sm_inl, apd_i 16 c [u] (by omega) (by simp; omega), Option.bind_some,
   tk_l2 l (c ++ [u]) f (n - 1) rest (fun v hv => hu v (List.mem_cons_of_mem _ hv)) hn1 (by omega) (by simp; omega)]
  simp
section
variable {k m : Nat} {r : Ae} {L : List (List Str)}
theorem tk_l1 (U V : List (List Str)) (l : List Str) (st : Str) (hnd : (U ++ l :: V).flatten.Nodup) (ht : (U ++ l :: V).flatten.length ≤ m) (h64 : ∀ u ∈ l, u.length ≤ 64) (hk : U.length < k) (hm : m ≤ 4096) :
  ∀ (f j : Nat) (r : Ae), j < f → j ≤ l.length → RR k m r (U ++ l.drop j :: V) → ∃ r', C8 (l, st) (U.length : Int) f (some r) ((j : Int) - 1) = some (.inl (some r')) ∧ RR k m r' (U ++ l :: V)
 | 0, j, r, hf, _, _ => by omega
 | f + 1, 0, r, hf, hj, hR => ⟨r, by unfold C8; rw [if_neg (by simp)], by simpa using hR⟩
 | f + 1, j + 1, r, hf, hj, hR => by
  have hj' : j < l.length := by omega
  have hsp : l = l.take j ++ l[j] :: l.drop (j + 1) := by rw [← List.drop_eq_getElem_cons hj', List.take_append_drop]
  have hno : l[j] ∉ (U ++ l.drop (j + 1) :: V).flatten := fun hmem => by
   rw [hsp] at hnd
   simp only [List.flatten_append, List.flatten_cons, List.mem_append, List.append_assoc, List.cons_append, List.length_append, List.length_take, List.length_cons] at hmem hnd
   have h1 := List.nodup_append.1 hnd
   have h2 := List.nodup_append.1 h1.2.1
   have h3 := List.nodup_cons.1 h2.2.1
   rcases hmem with hmem | hmem | hmem
   ·exact h1.2.2 _ hmem _ (List.mem_append.2 (.inr (List.mem_cons_self ..))) rfl
   ·exact h3.1 (List.mem_append.2 (.inl hmem))
   ·exact h3.1 (List.mem_append.2 (.inr hmem))
  have hroom : (U ++ l.drop (j + 1) :: V).flatten.length < m := by
   simp only [List.flatten_append, List.flatten_cons, List.length_append, List.length_drop] at ht ⊢
   omega
  obtain ⟨r1, e1, hR1⟩ := hR.front_new hm hno (h64 _ (List.getElem_mem hj')) hroom (j := U.length) hk
  have hs : (U ++ l.drop (j + 1) :: V).set U.length (l[j] :: (U ++ l.drop (j + 1) :: V).getD U.length []) = U ++ l.drop j :: V := by
   rw [List.drop_eq_getElem_cons hj']; simp
  rw [hs] at hR1
  obtain ⟨r', e2, hR2⟩ := tk_l1 U V l st hnd ht h64 hk hm f j r1 (by omega) (by omega) hR1
  refine ⟨r', ?_, hR2⟩
  have hjj : (((j + 1 : Nat) : Int) - 1) = (j : Int) := by omega
  unfold C8
  rw [hjj, if_pos (by simp), show gi (l, st).1 (j : Int) = some l[j] by rw [giC]; exact List.getElem?_eq_getElem hj', Option.bind_some, om_some, hR.in_none hno, Option.bind_some, if_neg (by decide), e1, Option.bind_some, must_t, lt_eq, sm_inl, Option.bind_some]
  dsimp only
  have hjm : j < m := by
   have : l.length ≤ m := by simp only [List.flatten_append, List.flatten_cons, List.length_append] at ht; omega
   omega
  rw [i64s _ (by omega) (by omega)]
  exact e2
theorem tk_l0 (a b : UInt64 × Ai) (ha : i64 (a.1.toNat : Int) = (k : Int)) (hb : i64 (b.1.toNat : Int) = (m : Int)) (hk8 : k ≤ 8) (hm : m ≤ 4096) (rest : Str) :
  ∀ (W U : List (List Str)) (f : Nat) (r : Ae), W.length < f → U.length + W.length = k → RR k m r (U ++ W.map fun _ => []) → (U ++ W).flatten.Nodup → (U ++ W).flatten.length ≤ m → (∀ u ∈ W.flatten, u.length ≤ 64) →
  ∃ r', Da a b f (some r) (U.length : Int) (W.flatMap lb ++ rest) = some (.inl (some r', rest)) ∧ RR k m r' (U ++ W)
 | W, U, 0, r, hf, _, _, _, _, _ => by omega
 | [], U, f + 1, r, hf, hl, hR, _, _, _ => by
  refine ⟨r, ?_, by simpa using hR⟩
  unfold Da
  rw [ha, if_neg (by simp at hl; simp; omega)]; simp
 | l :: W, U, f + 1, r, hf, hl, hR, hnd, ht, hu => by
  rw [List.length_cons] at hf hl
  have h64 : ∀ u ∈ l, u.length ≤ 64 := fun u h => hu u (by simp only [List.flatten_cons, List.mem_append]; exact .inl h)
  have hV : (W.map fun _ => ([] : List Str)).flatten = [] := by simp
  have hnd' : (U ++ l :: W.map fun _ => ([] : List Str)).flatten.Nodup := by
   simp only [List.flatten_append, List.flatten_cons, hV, List.append_nil] at hnd ⊢
   rw [← List.append_assoc] at hnd
   exact (List.nodup_append.1 hnd).1
  have ht' : (U ++ l :: W.map fun _ => ([] : List Str)).flatten.length ≤ m := by
   simp only [List.flatten_append, List.flatten_cons, hV, List.append_nil, List.length_append] at ht ⊢
   omega
  have hlm : l.length ≤ m := by simp only [List.flatten_append, List.flatten_cons, List.length_append] at ht; omega
  have hn := toW_len l.length (by omega)
  have hR0 : RR k m r (U ++ l.drop l.length :: W.map fun _ => []) := by rw [List.drop_length]; exact hR
  obtain ⟨r1, e1, hR1⟩ := tk_l1 U (W.map fun _ => []) l (W.flatMap lb ++ rest) hnd' ht' h64 (by omega) hm (l.length + 1) l.length r (by omega) (by omega) hR0
  obtain ⟨r', e2, hR2⟩ := tk_l0 a b ha hb hk8 hm rest W (U ++ [l]) f r1 (by omega) (by simp; omega) (by simpa using hR1) (by simpa using hnd) (by simpa using ht) (fun u h => hu u (by simp only [List.flatten_cons, List.mem_append]; exact .inr h))
  refine ⟨r', ?_, by simpa using hR2⟩
  have e : (l :: W).flatMap lb ++ rest = enc 11 l.length ++ (kb l ++ (W.flatMap lb ++ rest)) := by simp only [List.flatMap_cons, lb, List.append_assoc]
  have hB := num_back (toW (l.length : Int)) (toW (m : Int)) (kb l ++ (W.flatMap lb ++ rest)) (by rw [UInt64.le_iff_toNat_le, hn, toW_len m (by omega)]; exact hlm)
  rw [hn] at hB
  generalize toW (l.length : Int) = N at hn hB
  unfold Da
  rw [ha, hb, if_pos (by simp; omega), e, hB, Option.bind_some, sm_inl]
  dsimp only
  rw [tk_l2 l [] (N.toNat + 1) N (W.flatMap lb ++ rest) h64 hn (by omega) (by simp; omega), Option.bind_some]
  dsimp only
  rw [List.nil_append, i64s ((l.length : Int) - 1) (by omega) (by omega), show ((l.length : Int) - 1 + 1).toNat + 1 = l.length + 1 by omega, e1, Option.bind_some]
  dsimp only
  rw [Option.bind_some]
  dsimp only
  rw [i64n _ (by omega)]
  rw [List.length_append, List.length_singleton] at e2
  exact e2
theorem Take_back (h : RR k m r L) (h1 : 1 ≤ k) (hk : k ≤ 8) (hm : m ≤ 4096) (rest : Str) : ∃ r', Db ⟨rb k m L ++ rest⟩ = some (.inl (some r', ⟨rest⟩)) ∧ RR k m r' L := by
 have hL := h.len
 have hK := toW_len k (by omega)
 have hM := toW_len m (by omega)
 obtain ⟨r0, e0, hR0⟩ := new_ok k m h1 hk hm
 have e : rb k m L ++ rest = enc 11 k ++ (enc 11 m ++ (L.flatMap lb ++ rest)) := by unfold rb; simp only [List.append_assoc]
 have b1 := num_back (toW (k : Int)) 8 (enc 11 m ++ (L.flatMap lb ++ rest)) (by rw [UInt64.le_iff_toNat_le, hK, show (8 : UInt64).toNat = 8 by decide]; exact hk)
 have b2 := num_back (toW (m : Int)) 4096 (L.flatMap lb ++ rest) (by rw [UInt64.le_iff_toNat_le, hM, show (4096 : UInt64).toNat = 4096 by decide]; exact hm)
 rw [hK] at b1
 rw [hM] at b2
 have eK : i64 ((k : Nat) : Int) = (k : Int) := i64s _ (by omega) (by omega)
 have eM : i64 ((m : Nat) : Int) = (m : Int) := i64s _ (by omega) (by omega)
 generalize toW (k : Int) = K at hK b1
 generalize toW (m : Int) = M at hM b2
 have eK' : i64 ((K.toNat : Nat) : Int) = (k : Int) := by rw [hK, eK]
 have eM' : i64 ((M.toNat : Nat) : Int) = (m : Int) := by rw [hM, eM]
 have hz : L.map (fun _ => ([] : List Str)) = List.replicate k [] := by
  rw [List.map_const', hL]
 obtain ⟨r', e2, hR2⟩ := tk_l0 (K, ⟨enc 11 m ++ (L.flatMap lb ++ rest)⟩) (M, ⟨L.flatMap lb ++ rest⟩) eK' eM' hk hm rest L [] (((k : Int) - 0).toNat + 1) r0 (by omega) (by simpa using hL) (by rw [List.nil_append, hz]; exact hR0) (by simpa using h.nd) (by have := h.tot; simp only [List.nil_append]; omega) h.kl
 refine ⟨r', ?_, by simpa using hR2⟩
 unfold Db
 rw [e, b1, Option.bind_some, sm_inl, b2, Option.bind_some, sm_inl]
 dsimp only
 rw [eK', eM', e0, Option.bind_some, show ((0 : Int) == 0) = true from rfl, must_t, lt_eq, sm_inl]
 rw [show (([] : List (List Str)).length : Int) = 0 from rfl] at e2
 rw [e2, Option.bind_some]
end
end Go.Proofs.YthngfieikhillaaGreat.Pure
namespace Go.Proofs.YthngfieikhillaaGreat.Pure
open Go Go.Proofs.YthngfieikhillaaGreat.Hw
section
variable {n : Nat} {seed : UInt64} {t : Ak} {s : Sk} {x : TL} {k : Str}
def tbytes (n : Nat) (seed : UInt64) (s : Sk) (x : TL) : Str := (enc 11 n ++ s.bytes (wd n) seed) ++ rb 3 (n + 1) x.L
theorem sk_size {w : Nat} (hs : s.ok w) (h2 : w ≤ 4096) : (s.bytes w seed).length ≤ 5 * w + 33 := by
 have e1 := enc_len 11 (toW (w : Int)).toNat
 have e2 := enc_len 11 seed.toNat
 have e3 := enc_len 11 (toW (s.n : Int)).toNat
 unfold Sk.bytes bits
 simp only [List.length_append, List.length_map, hs.ha, hs.hb, hs.hc, hs.he, hs.hd]
 omega
theorem rb_size (h : TR n seed t s x) : (rb 3 (n + 1) x.L).length ≤ 400000 := by
 obtain ⟨r, hr, hR⟩ := h.rg
 have hn := h.n2
 have := hR.size (by omega) (by omega)
 have e1 := enc_len 11 3
 have e2 := enc_len 11 (n + 1)
 unfold rb
 simp only [List.length_append]
 omega
theorem tsize (h : TR n seed t s x) : (tbytes n seed s x).length ≤ 450000 := by
 have e1 := enc_len 11 n
 have e2 := sk_size (seed := seed) h.ok h.w2
 have e3 := rb_size h
 have w2 := h.w2
 unfold tbytes
 simp only [List.length_append]; omega
theorem TR.Export (h : TR n seed t s x) : CR t = some (tbytes n seed s x) := by
 obtain ⟨r, hr, hR⟩ := h.rg
 have hn := h.n2
 have e1 := enc_len 11 n
 have e2 := sk_size (seed := seed) h.ok h.w2
 have e3 := rb_size h
 have w2 := h.w2
 have hM : 500000 ≤ maxS := by decide
 unfold CR tbytes
 rw [h.ms, num_c n (by omega), Option.bind_some, h.sk, om_some, Exp_c h.w2 h.ok, Option.bind_some, if_pos (by omega), hr, om_some, hR.Export (by omega) (by omega), Option.bind_some, if_pos (by rw [List.length_append]; omega)]
theorem dPut (h : TR n seed t s x) (hn9 : n ≤ 900) : Dl (TD n seed s x) = some (tbytes n seed s x) := by
 obtain ⟨r, hr, hR⟩ := h.rg
 have hn := h.n2
 have e1 := enc_len 11 n
 have e2 := sk_size (seed := seed) h.ok h.w2
 have e3 := rb_size h
 have w2 := h.w2
 have hM : 500000 ≤ maxS := by decide
 have hb := h.bn
 have hp : Cm ⟨x.L, ((n + 1 : Nat) : Int)⟩ = some (rb 3 (n + 1) x.L) := rPut (L := x.L) (n + 1) (by omega) (by simp) (by rw [fl_all, all_n]; omega) (hR.kl)
 unfold Dl tbytes
 rw [num_r n (by omega), Option.bind_some, Put_m h.w2 h.ok, Option.bind_some, if_pos (by omega), hp, Option.bind_some, if_pos (by rw [List.length_append]; omega)]
theorem TR.Take (h : TR n seed t s x) : ∃ t', Dp ⟨tbytes n seed s x⟩ = some (.inl (some t', ⟨[]⟩)) ∧ TR n seed t' s x := by
 obtain ⟨r, hr, hR⟩ := h.rg
 have hn := h.n2
 have hn1 := h.n1
 have hN := toW_len n (by omega)
 obtain ⟨r', e1, hR'⟩ := Take_back hR (by omega) (by omega) (by omega) []
 have e2 := take_back (wd n) seed s (rb 3 (n + 1) x.L ++ []) h.w1 h.w2 h.ok
 have b1 := num_back (toW (n : Int)) 1000 (s.bytes (wd n) seed ++ (rb 3 (n + 1) x.L ++ [])) (by rw [UInt64.le_iff_toNat_le, hN, show (1000 : UInt64).toNat = 1000 by decide]; exact hn)
 have eN : i64 ((n : Nat) : Int) = (n : Int) := i64s _ (by omega) (by omega)
 have e : tbytes n seed s x = enc 11 n ++ (s.bytes (wd n) seed ++ (rb 3 (n + 1) x.L ++ [])) := by unfold tbytes; simp only [List.append_assoc, List.append_nil]
 rw [hN] at b1
 generalize toW (n : Int) = K at hN b1
 have eK : i64 ((K.toNat : Nat) : Int) = (n : Int) := by rw [hN, eN]
 have hT : TR n seed ⟨(n : Int), some (s.C (wd n) seed), some r'⟩ s x := ⟨h.n1, h.n2, rfl, rfl, h.ok, ⟨r', rfl, hR'⟩, h.bb, h.ba, h.bc⟩
 refine ⟨_, ?_, hT⟩
 have hl := hT.Len
 have hfree : Am r' = (((n + 1) - x.n : Nat) : Int) := by
  have := hR'.tot
  rw [fl_all, all_n] at this
  unfold Am
  omega
 have hbn := h.bn
 have hw : A3 (s.C (wd n) seed) = (wd n : Int) := rfl
 have hb0 := h.ba
 have hb2 := h.bc
 unfold Dp
 rw [e, b1, Option.bind_some, sm_inl]
 dsimp only
 rw [eK, decide_eq_true (by omega : (1 : Int) ≤ (n : Int)), must_t, lt_eq, sm_inl, e2, Option.bind_some, sm_inl]
 dsimp only
 rw [om_some, hw, wide_c n hn, show ((wd n : Int) == (wd n : Int)) = true from beq_self_eq_true _, must_t, lt_eq, sm_inl, e1, Option.bind_some, sm_inl]
 dsimp only
 rw [om_some, show Ao r' = (3 : Int) from hR'.lists, if_pos (by rfl), hl, Option.bind_some, hfree, i64s ((((n + 1) - x.n : Nat) : Int) + (x.n : Int)) (by omega) (by omega), i64s ((n : Int) + 1) (by omega) (by omega),
  if_pos (by rw [beq_iff_eq]; omega), if_pos (by simp; omega), show Aq r' 0 = _ from hR'.Len (i := 0) (l := x.a) rfl, Option.bind_some, parts_c n hn hn1]
 dsimp only
 rw [if_pos (by simp; omega), show Aq r' 2 = _ from hR'.Len (i := 2) (l := x.c) rfl, Option.bind_some, decide_eq_true (by omega : (x.c.length : Int) ≤ (Sf n : Int)), must_t, lt_eq, sm_inl]
end
section
variable {n : Nat} {t : Al} {x : AL}
def abytes (n g : Nat) (x : AL) : Str := (enc 11 n ++ enc 11 g) ++ rb 4 (2 * n + 1) x.L
theorem AR.gt (h : AR n t x) : ∃ g : Nat, t.target = (g : Int) ∧ g ≤ n := by
 obtain ⟨h1, h2⟩ := h.tg
 exact ⟨t.target.toNat, by omega, by omega⟩
theorem AR.rsize (h : AR n t x) : (rb 4 (2 * n + 1) x.L).length ≤ 400000 := by
 obtain ⟨r, hr, hR⟩ := h.rg
 have hn := h.n2
 have := hR.size (by omega) (by omega)
 have e1 := enc_len 11 4
 have e2 := enc_len 11 (2 * n + 1)
 unfold rb
 simp only [List.length_append]
 omega
theorem AR.Export (h : AR n t x) {g : Nat} (hg : t.target = (g : Int)) (hgn : g ≤ n) : C6 t = some (abytes n g x) := by
 obtain ⟨r, hr, hR⟩ := h.rg
 have hn := h.n2
 have e1 := enc_len 11 n
 have e2 := enc_len 11 g
 have e3 := h.rsize
 have hM : 500000 ≤ maxS := by decide
 unfold C6 abytes
 rw [h.ms, hg, num_c n (by omega), Option.bind_some, num_c g (by omega), Option.bind_some, if_pos (by omega), hr, om_some, hR.Export (by omega) (by omega), Option.bind_some, if_pos (by rw [List.length_append]; omega)]
theorem AR.dPut (h : AR n t x) {g : Nat} (hgn : g ≤ n) : Dm (AD n (g : Int) x) = some (abytes n g x) := by
 obtain ⟨r, hr, hR⟩ := h.rg
 have hn := h.n2
 have e1 := enc_len 11 n
 have e2 := enc_len 11 g
 have e3 := h.rsize
 have e4 := h.fll
 have hM : 500000 ≤ maxS := by decide
 have hp : Cm ⟨x.L, ((2 * n + 1 : Nat) : Int)⟩ = some (rb 4 (2 * n + 1) x.L) := rPut (L := x.L) (2 * n + 1) (by omega) (by simp) (by omega) (hR.kl)
 unfold Dm abytes
 rw [num_r n (by omega), Option.bind_some, num_r g (by omega), Option.bind_some, if_pos (by omega), hp, Option.bind_some, if_pos (by rw [List.length_append]; omega)]
theorem AR.size (h : AR n t x) {g : Nat} : (abytes n g x).length ≤ 400100 := by
 have e1 := enc_len 11 n
 have e2 := enc_len 11 g
 have e3 := h.rsize
 unfold abytes
 simp only [List.length_append]; omega
theorem i64add (a b : Nat) (h : a + b ≤ 100000) : i64 ((a : Int) + (b : Int)) = ((a + b : Nat) : Int) := by rw [i64s _ (by omega) (by omega)]; omega
theorem i64sub (a b : Nat) (h : b ≤ a) (ha : a ≤ 100000) : i64 ((a : Int) - (b : Int)) = ((a - b : Nat) : Int) := by rw [i64s _ (by omega) (by omega)]; omega
theorem i64_2n (n : Nat) (h : n ≤ 400) : i64 (2 * (n : Int)) = ((2 * n : Nat) : Int) := by rw [i64s _ (by omega) (by omega)]; omega
theorem i64_2n1 (n : Nat) (h : n ≤ 400) : i64 (i64 (2 * (n : Int)) + 1) = ((2 * n + 1 : Nat) : Int) := by rw [i64_2n n h, i64s _ (by omega) (by omega)]; omega
theorem i64nat (n : Nat) (h : n ≤ 100000) : i64 (n : Int) = (n : Int) := i64s _ (by omega) (by omega)
theorem AR.Take (h : AR n t x) {g : Nat} (hg : t.target = (g : Int)) (hgn : g ≤ n) : ∃ t', Dr ⟨abytes n g x⟩ = some (.inl (some t', ⟨[]⟩)) ∧ t'.target = t.target ∧ AR n t' x := by
 obtain ⟨r, hr, hR⟩ := h.rg
 have hn := h.n2
 have hn1 := h.n1
 have b1 := h.b1; have b2 := h.b2; have b3 := h.b3
 have hn5 : n ≤ 100000 := by omega
 have hg5 : g ≤ 100000 := by omega
 obtain ⟨r', e1, hR'⟩ := Take_back hR (by omega) (by omega) (by omega) []
 have hT : AR n ⟨(n : Int), (g : Int), some r'⟩ x := ⟨h.n1, h.n2, rfl, ⟨Int.natCast_nonneg g, Int.ofNat_le.2 hgn⟩, ⟨r', rfl, hR'⟩, h.b1, h.b2, h.b3⟩
 refine ⟨⟨(n : Int), (g : Int), some r'⟩, ?_, hg.symm, hT⟩
 have ht := hR'.tot
 have hfl := h.fll
 have hall : x.L.flatten.length = x.a.length + x.b.length + x.c.length + x.d.length := by rw [afl]; unfold AL.all; simp only [List.length_append]; omega
 have hfree : Am r' = (((2 * n + 1) - x.L.flatten.length : Nat) : Int) := by
  unfold Am
  omega
 have l0 := hR'.Len (i := 0) (l := x.a) rfl
 have l1 := hR'.Len (i := 1) (l := x.b) rfl
 have l2 := hR'.Len (i := 2) (l := x.c) rfl
 have l3 := hR'.Len (i := 3) (l := x.d) rfl
 have loop : Ci r' 5 (Am r') 0 [0, 0, 0, 0] = some (((2 * n + 1 : Nat) : Int), [(x.a.length : Int), (x.b.length : Int), (x.c.length : Int), (x.d.length : Int)]) := by
  have S4 : ∀ (u a b c d : Int), Ci r' 1 u 4 [a, b, c, d] = some (u, [a, b, c, d]) := fun _ _ _ _ _ => rfl
  have S3 : ∀ (u a b c d : Int), Ci r' 2 u 3 [a, b, c, d] = some (i64 (u + (x.d.length : Int)), [a, b, c, (x.d.length : Int)]) := fun u a b c d => by
   unfold Ci
   rw [if_pos (by decide), show Aq r' 3 = _ from l3, Option.bind_some, if_pos (by decide)]
   exact S4 _ _ _ _ _
  have S2 : ∀ (u a b c d : Int), Ci r' 3 u 2 [a, b, c, d] = some (i64 (i64 (u + (x.c.length : Int)) + (x.d.length : Int)), [a, b, (x.c.length : Int), (x.d.length : Int)]) := fun u a b c d => by
   unfold Ci
   rw [if_pos (by decide), show Aq r' 2 = _ from l2, Option.bind_some, if_pos (by decide)]
   exact S3 _ _ _ _ _
  have S1 : ∀ (u a b c d : Int), Ci r' 4 u 1 [a, b, c, d] = some (i64 (i64 (i64 (u + (x.b.length : Int)) + (x.c.length : Int)) + (x.d.length : Int)), [a, (x.b.length : Int), (x.c.length : Int), (x.d.length : Int)]) := fun u a b c d => by
   unfold Ci
   rw [if_pos (by decide), show Aq r' 1 = _ from l1, Option.bind_some, if_pos (by decide)]
   exact S2 _ _ _ _ _
  unfold Ci
  rw [if_pos (by decide), show Aq r' 0 = _ from l0, Option.bind_some, if_pos (by decide)]
  refine (S1 (i64 (Am r' + (x.a.length : Int))) (x.a.length : Int) 0 0 0).trans ?_
  rw [hfree, i64add _ _ (by omega), i64add _ _ (by omega), i64add _ _ (by omega), i64add _ _ (by omega)]
  congr 3
  omega
 have f1 : ((x.a.length + x.b.length : Nat) : Int) ≤ (n : Int) := by omega
 have f2 : ((x.a.length + x.c.length : Nat) : Int) ≤ (n : Int) := by omega
 have f3 : ((x.L.flatten.length : Nat) : Int) ≤ ((2 * n : Nat) : Int) := by omega
 have g1 : x.a.length + x.b.length ≤ 100000 := by omega
 have g2 : x.a.length + x.c.length ≤ 100000 := by omega
 have o1 : (1 : Int) ≤ (n : Int) := by omega
 have hsub : (2 * n + 1) - ((2 * n + 1) - x.L.flatten.length) = x.L.flatten.length := by omega
 have hN := toW_len n hn5
 have hG := toW_len g hg5
 have q1 := num_back (toW (n : Int)) 1000 (enc 11 g ++ (rb 4 (2 * n + 1) x.L ++ [])) (by rw [UInt64.le_iff_toNat_le, hN, show (1000 : UInt64).toNat = 1000 by decide]; exact Nat.le_trans hn (by decide))
 have q2 := num_back (toW (g : Int)) (toW (n : Int)) (rb 4 (2 * n + 1) x.L ++ []) (by rw [UInt64.le_iff_toNat_le, hN, hG]; exact hgn)
 have e : abytes n g x = enc 11 n ++ (enc 11 g ++ (rb 4 (2 * n + 1) x.L ++ [])) := by unfold abytes; simp only [List.append_assoc, List.append_nil]
 rw [hN] at q1
 rw [hG] at q2
 generalize hK : toW (n : Int) = K at hN q1 q2
 generalize toW (g : Int) = J at hG q2
 have eK : i64 ((K.toNat : Nat) : Int) = (n : Int) := by rw [hN, i64nat n hn5]
 have eJ : i64 ((J.toNat : Nat) : Int) = (g : Int) := by rw [hG, i64nat g hg5]
 have m1 : i64 (i64 (2 * (n : Int)) + 1) = ((2 * n + 1 : Nat) : Int) := i64_2n1 n hn
 have m2 : i64 (2 * (n : Int)) = ((2 * n : Nat) : Int) := i64_2n n hn
 have m5 : i64 (((2 * n + 1 : Nat) : Int) - Am r') = ((x.L.flatten.length : Nat) : Int) := by rw [hfree, i64sub _ _ (Nat.sub_le _ _) (Nat.le_trans (Nat.add_le_add_right (Nat.mul_le_mul_left 2 hn) 1) (by decide)), hsub]
 unfold Dr
 rw [e, q1, Option.bind_some, sm_inl]
 dsimp only
 rw [eK, decide_eq_true o1, must_t, lt_eq, sm_inl, hK, q2, Option.bind_some, sm_inl]
 dsimp only
 rw [eJ, e1, Option.bind_some, sm_inl]
 dsimp only
 rw [om_some, loop, Option.bind_some]
 dsimp only
 have c1 : ((((2 * n + 1 : Nat) : Int) == i64 (i64 (2 * (n : Int)) + 1)) && decide (i64 (([(x.a.length : Int), (x.b.length : Int), (x.c.length : Int), (x.d.length : Int)].getD 0 default) + ([(x.a.length : Int), (x.b.length : Int), (x.c.length : Int), (x.d.length : Int)].getD 1 default)) ≤ (n : Int)) && decide (i64 (([(x.a.length : Int), (x.b.length : Int), (x.c.length : Int), (x.d.length : Int)].getD 0 default) + ([(x.a.length : Int), (x.b.length : Int), (x.c.length : Int), (x.d.length : Int)].getD 2 default)) ≤ (n : Int))) = true := by
  show ((((2 * n + 1 : Nat) : Int) == i64 (i64 (2 * (n : Int)) + 1)) && decide (i64 ((x.a.length : Int) + (x.b.length : Int)) ≤ (n : Int)) && decide (i64 ((x.a.length : Int) + (x.c.length : Int)) ≤ (n : Int))) = true
  rw [m1, i64add _ _ g1, i64add _ _ g2, beq_self_eq_true, decide_eq_true f1, decide_eq_true f2]; rfl
 rw [if_pos c1, m5, m2, if_pos (decide_eq_true f3), show Ao r' = (4 : Int) from hR'.lists, show ((4 : Int) == 4) = true from rfl, must_t, lt_eq, sm_inl]
end
end Go.Proofs.YthngfieikhillaaGreat.Pure
namespace Go.Proofs.YthngfieikhillaaGreat.Pure
open Go Go.Proofs.YthngfieikhillaaGreat.Hw Go.Proofs.YthngfieikhillaaGreat
theorem texts_l0 (l : List Str) (hl : l.length ≤ 100000) : ∀ (f j : Nat), l.length - j < f → j ≤ l.length → B9 l l f (j : Int) = some (.inl ())
 | 0, j, h, _ => by omega
 | f + 1, j, h, hj => by
  unfold B9
  rcases Nat.lt_or_ge j l.length with h1 | h1
  ·rw [if_pos (by simp; exact h1), giC, List.getElem?_eq_getElem h1, Option.bind_some, Option.bind_some, if_neg (by simp), i64n j (by omega)]
   exact texts_l0 l hl f (j + 1) (by omega) (by omega)
  ·rw [if_neg (by simp; omega)]
theorem texts_eq (l : List Str) (hl : l.length ≤ 100000) : BX l l = some true := by
 unfold BX
 have := texts_l0 l hl (((l.length : Int) - 0).toNat + 1) 0 (by omega) (by omega)
 rw [show ((0 : Nat) : Int) = 0 from rfl] at this
 rw [if_neg (by simp), this]; rfl
theorem awake9 : CK = some true := by decide +kernel
theorem few9 (x : Str) : ∃ r, B2 x = some r ∧ r.length ≤ 80 := by
 unfold B2
 by_cases h : 80 < x.length
 ·have e : decide ((80 : Int) < (x.length : Int)) = true := by simp; omega
  rw [if_pos e]
  unfold sl
  rw [if_pos (by omega), Option.bind_some]
  exact ⟨_, rfl, by simp; omega⟩
 ·have e : ¬ decide ((80 : Int) < (x.length : Int)) = true := by simp; omega
  rw [if_neg e]
  exact ⟨_, rfl, by omega⟩
theorem new_d (n : Nat) (seed : UInt64) (h1 : 1 ≤ n) (h2 : n ≤ 500) : CH (n : Int) seed = some (TD n seed ⟨List.replicate (wd n) 0, List.replicate (wd n) 0, List.replicate (wd n) 0, List.replicate (wd n) 0, List.replicate (wd n) false, 0⟩ ⟨[], [], []⟩) := by
 have ew : Cj (n : Int) = (wd n : Int) := by
  unfold Cj wd
  rw [if_neg (by simp; omega), i64s _ (by omega) (by omega)]; omega
 have w1 : 1 ≤ wd n := by unfold wd; omega
 have w2 : wd n ≤ 4096 := by unfold wd; omega
 unfold CH
 rw [ew, new_m (wd n) seed w1 w2, Option.bind_some, i64n n (by omega), show Bf 3 _ = _ from rnew 3 (by omega), Option.bind_some]
 rfl
section
variable {n : Nat} {seed : UInt64} {t : Ak} {s : Sk} {x : TL} {k : Str}
theorem TR.Miss (h : TR n seed t s x) (hk : k.length ≤ 80) : ∃ t', C5 t k = some t' ∧ TR n seed t' (if k.length ≤ 64 then ad (wd n) seed s k else s) x := by
 unfold C5
 by_cases h1 : k.length ≤ 64
 ·rw [if_pos (by simp; omega), h.sk, om_some, h.add (by omega), Option.bind_some, if_pos h1]
  exact ⟨_, rfl, ⟨h.n1, h.n2, h.ms, rfl, h.adok k, h.rg, h.bb, h.ba, h.bc⟩⟩
 ·rw [if_neg (by simp; omega), if_neg h1]
  exact ⟨_, rfl, h⟩
theorem ins_le : (ins n seed s x k).2.length ≤ 1 := by
 unfold ins
 split
 ·simp
 ·split
  ·simp
  ·split
   ·split <;> simp
   ·simp
end
def PP (n : Nat) (p : Ab) (m : Ah) : Prop :=
 (∃ t x, p.kind = 1 ∧ p.a = some t ∧ m.Kind = 1 ∧ m.A = AD n t.target x ∧ AR n t x) ∨ ∃ t s x, p.kind = 2 ∧ p.t = some t ∧ m.Kind = 2 ∧ m.T = TD n 5 s x ∧ TR n 5 t s x
theorem k1f {k : Int} (h : k = 2) : ¬ (k == 1) = true := by subst h; decide
theorem k1t {k : Int} (h : k = 1) : (k == 1) = true := by subst h; decide
theorem k2t {k : Int} (h : k = 2) : (k == 2) = true := by subst h; decide
theorem k2f {k : Int} (h : k = 1) : ¬ (k == 2) = true := by subst h; decide
section
variable {n : Nat} {p : Ab} {m : Ah} {k : Str}
theorem PP.Touch (h : PP n p m) (hn : n ≤ 400) (k : Str) : ∃ b p' m', Bb p k = some (b, p') ∧ BJ m k = some (m', b) ∧ PP n p' m' ∧ p'.kind = p.kind := by
 unfold Bb BJ An
 rcases h with ⟨t, x, h1, h2, h3, h4, h⟩ | ⟨t, s, x, h1, h2, h3, h4, h⟩
 ·obtain ⟨t', x', e, ed, h'⟩ := h.dtouch k
  rw [if_pos (k1t h1), h2, om_some, e, Option.bind_some, if_pos (k1t h3), h4, ed, Option.bind_some]
  exact ⟨_, _, _, rfl, rfl, .inl ⟨t', x', h1, rfl, h3, rfl, h'⟩, rfl⟩
 ·rw [if_neg (k1f h1), if_pos (k2t h1), h2, om_some, if_neg (k1f h3), h4]
  by_cases hm : k ∈ x.all
  ·obtain ⟨t', e, h', _⟩ := h.touch hm
   rw [e, Option.bind_some, dTouch h (by omega) hm, Option.bind_some]
   exact ⟨_, _, _, rfl, rfl, .inr ⟨t', _, _, h1, rfl, h3, rfl, h'⟩, rfl⟩
  ·rw [h.touch_no hm, Option.bind_some, dTouch_no h (by omega) hm, Option.bind_some]
   exact ⟨_, _, _, rfl, rfl, .inr ⟨t, _, _, h1, rfl, h3, rfl, h⟩, rfl⟩
theorem PP.Remove (h : PP n p m) (hn : n ≤ 400) (k : Str) : ∃ b p' m', Bn p k = some (b, p') ∧ BE m k = some (m', b) ∧ PP n p' m' ∧ p'.kind = p.kind := by
 unfold Bn BE An
 rcases h with ⟨t, x, h1, h2, h3, h4, h⟩ | ⟨t, s, x, h1, h2, h3, h4, h⟩
 ·obtain ⟨t', x', e, ed, h'⟩ := h.dremove k
  rw [if_pos (k1t h1), h2, om_some, e, Option.bind_some, if_pos (k1t h3), h4, ed, Option.bind_some]
  exact ⟨_, _, _, rfl, rfl, .inl ⟨t', x', h1, rfl, h3, rfl, h'⟩, rfl⟩
 ·obtain ⟨t', e, h'⟩ := h.Remove k
  rw [if_neg (k1f h1), if_pos (k2t h1), h2, om_some, e, Option.bind_some, if_neg (k1f h3), h4, dRemove h (by omega), Option.bind_some]
  exact ⟨_, _, _, rfl, rfl, .inr ⟨t', _, _, h1, rfl, h3, rfl, h'⟩, rfl⟩
theorem PP.Evict (h : PP n p m) (hn : n ≤ 400) : ∃ o b p' m', Bs p = some (o, b, p') ∧ BK m = some (m', o, b) ∧ PP n p' m' ∧ p'.kind = p.kind := by
 unfold Bs BK An
 rcases h with ⟨t, x, h1, h2, h3, h4, h⟩ | ⟨t, s, x, h1, h2, h3, h4, h⟩
 ·obtain ⟨o, b, t', x', e, ed, h'⟩ := h.devict
  rw [if_pos (k1t h1), h2, om_some, e, Option.bind_some, if_pos (k1t h3), h4, ed, Option.bind_some]
  exact ⟨_, _, _, _, rfl, rfl, .inl ⟨t', x', h1, rfl, h3, rfl, h'⟩, rfl⟩
 ·obtain ⟨t', x', e, h', e2⟩ := h.Evict
  rw [if_neg (k1f h1), if_pos (k2t h1), h2, om_some, e, Option.bind_some, if_neg (k1f h3), h4, dEvict h (by omega), Option.bind_some]
  cases e3 : evk x with
  | none => rw [e3] at e2; dsimp only at e2; subst e2; exact ⟨_, _, _, _, rfl, rfl, .inr ⟨t', _, _, h1, rfl, h3, rfl, h'⟩, rfl⟩
  | some q => rw [e3] at e2; dsimp only at e2; subst e2; exact ⟨_, _, _, _, rfl, rfl, .inr ⟨t', _, _, h1, rfl, h3, rfl, h'⟩, rfl⟩
theorem PP.Miss (h : PP n p m) (hn : n ≤ 400) {k : Str} (hk : k.length ≤ 80) : ∃ p' m', BF p k = some p' ∧ BQ m k = some m' ∧ PP n p' m' ∧ p'.kind = p.kind := by
 have hh := h
 unfold BF BQ An
 rcases h with ⟨t, x, h1, h2, h3, h4, h⟩ | ⟨t, s, x, h1, h2, h3, h4, h⟩
 ·rw [if_neg (k2f h1), if_neg (k2f h3), Option.bind_some, if_neg (by simp)]
  exact ⟨_, _, rfl, rfl, hh, rfl⟩
 ·rw [if_pos (k2t h1), h2, om_some, if_pos (k2t h1), h.Has, Option.bind_some, if_pos (k2t h3), h4, dHas (by omega) h.xn, Option.bind_some, Option.bind_some]
  by_cases hx : k ∈ x.all
  ·rw [if_neg (by simp [hx]), if_neg (by simp [hx])]
   exact ⟨_, _, rfl, rfl, hh, rfl⟩
  ·obtain ⟨t', e, h'⟩ := h.Miss hk
   rw [if_pos (by simp [hx]), if_pos (by simp [hx]), e, Option.bind_some, dMiss h hk, Option.bind_some]
   exact ⟨_, _, rfl, rfl, .inr ⟨t', _, _, h1, rfl, h3, rfl, h'⟩, rfl⟩
theorem PP.Insert (h : PP n p m) (hn : n ≤ 400) (k : Str) : ∃ g p' m', AV p k = some (g, p') ∧ BH m k = some (m', g) ∧ PP n p' m' ∧ p'.kind = p.kind ∧ g.length ≤ 1 := by
 unfold AV BH An
 rcases h with ⟨t, x, h1, h2, h3, h4, h⟩ | ⟨t, s, x, h1, h2, h3, h4, h⟩
 ·obtain ⟨g, t', x', e, ed, h', hg⟩ := h.dinsert k
  rw [if_pos (k1t h1), h2, om_some, e, Option.bind_some, if_pos (k1t h3), h4, ed, Option.bind_some]
  exact ⟨_, _, _, rfl, rfl, .inl ⟨t', x', h1, rfl, h3, rfl, h'⟩, rfl, hg⟩
 ·rw [if_neg (k1f h1), if_pos (k2t h1), h2, om_some, if_neg (k1f h3), h4]
  by_cases h64 : k.length ≤ 64
  ·by_cases hm : k ∈ x.all
   ·obtain ⟨t', e, h', _⟩ := h.insert_yes hm
    rw [e, Option.bind_some, dInsert_yes h (by omega) hm, Option.bind_some]
    exact ⟨_, _, _, rfl, rfl, .inr ⟨t', _, _, h1, rfl, h3, rfl, h'⟩, rfl, by simp⟩
   ·obtain ⟨t', e, h', _⟩ := h.insert_no hm h64
    rw [e, Option.bind_some, dInsert_no h (by omega) hm h64, Option.bind_some]
    exact ⟨_, _, _, rfl, rfl, .inr ⟨t', _, _, h1, rfl, h3, rfl, h'⟩, rfl, ins_le⟩
  ·rw [h.insert_long (by omega), Option.bind_some, dInsert_long (by omega), Option.bind_some]
   exact ⟨_, _, _, rfl, rfl, .inr ⟨t, _, _, h1, rfl, h3, rfl, h⟩, rfl, by simp⟩
theorem PP.Len (h : PP n p m) (hn : n ≤ 400) : ∃ c, Cu p = some c ∧ Dv m = some c := by
 unfold Cu Dv An
 rcases h with ⟨t, x, h1, h2, h3, h4, h⟩ | ⟨t, s, x, h1, h2, h3, h4, h⟩
 ·rw [if_pos (k1t h1), h2, om_some, h.Len, Option.bind_some, if_pos (k1t h3), h4, h.dLen, Option.bind_some]
  exact ⟨_, rfl, rfl⟩
 ·rw [if_neg (k1f h1), if_pos (k2t h1), h2, om_some, h.Len, Option.bind_some, if_neg (k1f h3), h4, dLen (by omega) h.xn, Option.bind_some]
  exact ⟨_, rfl, rfl⟩
theorem PP.Has (h : PP n p m) (hn : n ≤ 400) (k : Str) : ∃ c, AU p k = some c ∧ Dw m k = some c := by
 unfold AU Dw An
 rcases h with ⟨t, x, h1, h2, h3, h4, h⟩ | ⟨t, s, x, h1, h2, h3, h4, h⟩
 ·rw [if_pos (k1t h1), h2, om_some, h.Has, Option.bind_some, if_pos (k1t h3), h4, h.dHas, Option.bind_some, if_neg (k2f h3)]
  by_cases hm : k ∈ x.kept
  ·rw [decide_eq_true hm]; exact ⟨_, rfl, rfl⟩
  ·rw [decide_eq_false hm]; exact ⟨_, rfl, rfl⟩
 ·rw [if_neg (k1f h1), if_pos (k2t h1), h2, om_some, h.Has, Option.bind_some, if_neg (k1f h3), if_pos (k2t h3), h4, dHas (by omega) h.xn, Option.bind_some]
  exact ⟨_, rfl, rfl⟩
theorem num1 : A4 1 = some [1] := by decide +kernel
theorem num2 : A4 2 = some [2] := by decide +kernel
theorem enc1 : enc 11 (1 : UInt64).toNat = [1] := by decide +kernel
theorem enc2 : enc 11 (2 : UInt64).toNat = [2] := by decide +kernel
theorem u1 : i64 (((1 : UInt64).toNat : Nat) : Int) = 1 := by decide +kernel
theorem u2 : i64 (((2 : UInt64).toNat : Nat) : Int) = 2 := by decide +kernel
theorem PP.Export (h : PP n p m) (hn : n ≤ 400) : ∃ b, A5 p = some b ∧ Du m = some b ∧ ∃ q, CC b = some (some q, 0) ∧ PP n q m ∧ q.kind = p.kind := by
 have hM : 500000 ≤ maxS := by decide
 unfold A5 Du An
 rcases h with ⟨t, x, h1, h2, h3, h4, h⟩ | ⟨t, s, x, h1, h2, h3, h4, h⟩
 ·obtain ⟨g, hg, hgn⟩ := h.gt
  have hz := h.size (g := g)
  obtain ⟨t', eT, et, h'⟩ := h.Take hg hgn
  have b1 := num_back 1 2 (abytes n g x) (by decide)
  rw [enc1] at b1
  have hz1 : ([1] : Str).length + (abytes n g x).length ≤ maxS := by rw [List.length_singleton]; omega
  rw [if_pos (k1t h1), num1, Option.bind_some, h2, om_some, h.Export hg hgn, Option.bind_some, if_pos hz1, if_pos (k1t h3), h4, hg, h.dPut hgn, Option.bind_some, if_pos (by rw [List.length_singleton]; omega)]
  refine ⟨_, rfl, rfl, ⟨1, some t', none⟩, ?_, .inl ⟨t', x, rfl, rfl, h3, by rw [h4, et], h'⟩, h1.symm⟩
  have T : CX ⟨[1] ++ abytes n g x⟩ = some (.inl (some ⟨1, some t', none⟩, ⟨[]⟩)) := by
   unfold CX
   rw [show Ax ⟨[1] ++ abytes n g x⟩ 2 = _ from b1, Option.bind_some, sm_inl]
   dsimp only
   rw [u1, if_pos (k1t rfl), eT, Option.bind_some, sm_inl]
  unfold CC CJ
  rw [T, Option.bind_some]
  rfl
 ·have hz := tsize h
  obtain ⟨t', eT, h'⟩ := h.Take
  have b1 := num_back 2 2 (tbytes n 5 s x) (by decide)
  rw [enc2] at b1
  have hz1 : ([2] : Str).length + (tbytes n 5 s x).length ≤ maxS := by rw [List.length_singleton]; omega
  rw [if_neg (k1f h1), if_pos (k2t h1), num2, Option.bind_some, h2, om_some, h.Export, Option.bind_some, if_pos hz1, if_neg (k1f h3), h4, dPut h (by omega), Option.bind_some, if_pos (by rw [List.length_singleton]; omega)]
  refine ⟨_, rfl, rfl, ⟨2, none, some t'⟩, ?_, .inr ⟨t', s, x, rfl, rfl, h3, h4, h'⟩, h1.symm⟩
  have T : CX ⟨[2] ++ tbytes n 5 s x⟩ = some (.inl (some ⟨2, none, some t'⟩, ⟨[]⟩)) := by
   unfold CX
   rw [show Ax ⟨[2] ++ tbytes n 5 s x⟩ 2 = _ from b1, Option.bind_some, sm_inl]
   dsimp only
   rw [u2, if_neg (k1f rfl), if_pos (k2t rfl), eT, Option.bind_some, sm_inl]
  unfold CC CJ
  rw [T, Option.bind_some]
  rfl
theorem do_okK (h : PP n p m) (hn : n ≤ 400) (c : AC) (hf : B2 c.Key = some k) (hk : k.length ≤ 80) :
  ∃ p' m', CS p m c = some (some p', m', true) ∧ PP n p' m' ∧ p'.kind = p.kind := by
 unfold CS
 rw [hf, Option.bind_some]
 by_cases c4 : (c.Kind == 4) = true ∨ (c.Kind == 5) = true
 ·have e : (if (c.Kind == 4) then some (c.Kind == 4) else some (c.Kind == 5)) = some true := by
   rcases c4 with e | e
   ·rw [if_pos e, e]
   ·by_cases e4 : (c.Kind == 4) = true
    ·rw [if_pos e4, e4]
    ·rw [if_neg e4, e]
  obtain ⟨b, p', m', e1, e2, h', hk'⟩ := h.Touch hn k
  rw [e, Option.bind_some, if_pos rfl, e2, Option.bind_some, e1, Option.bind_some]
  exact ⟨p', m', by simp, h', hk'⟩
 ·have f4 : ¬ (c.Kind == 4) = true := fun e => c4 (.inl e)
  have f5 : (c.Kind == 5) = false := by simpa using fun e => c4 (.inr e)
  rw [if_neg f4, Option.bind_some, f5, if_neg (by decide)]
  by_cases c6 : (c.Kind == 6) = true
  ·obtain ⟨b, p', m', e1, e2, h', hk'⟩ := h.Remove hn k
   rw [if_pos c6, e2, Option.bind_some, e1, Option.bind_some]
   exact ⟨p', m', by simp, h', hk'⟩
  ·rw [if_neg c6]
   by_cases c7 : (c.Kind == 7) = true
   ·obtain ⟨o, b, p', m', e1, e2, h', hk'⟩ := h.Evict hn
    rw [if_pos c7, e2, Option.bind_some, e1, Option.bind_some]
    exact ⟨p', m', by simp, h', hk'⟩
   ·rw [if_neg c7]
    by_cases c8 : (c.Kind == 8) = true
    ·obtain ⟨p', m', e1, e2, h', hk'⟩ := h.Miss hn hk
     rw [if_pos c8, e1, Option.bind_some, e2, Option.bind_some]
     exact ⟨p', m', rfl, h', hk'⟩
    ·rw [if_neg c8]
     by_cases c9 : (c.Kind == 9) = true
     ·obtain ⟨b, e1, e2, q, e3, h', hk'⟩ := h.Export hn
      rw [if_pos c9, e1, Option.bind_some, e3, Option.bind_some]
      exact ⟨q, m, rfl, h', hk'⟩
     ·rw [if_neg c9]
      obtain ⟨g, p', m', e1, e2, h', hk', hg⟩ := h.Insert hn k
      rw [e2, Option.bind_some, e1, Option.bind_some, texts_eq g (by omega), Option.bind_some]
      exact ⟨p', m', rfl, h', hk'⟩
end
theorem new_p (j n : Nat) (hj : j ≤ 1) (h1 : 1 ≤ n) (h2 : n ≤ 400) : ∃ p m, CM ((1 + j : Nat) : Int) (n : Int) 5 = some (some p, 0) ∧ Cs ((1 + j : Nat) : Int) (n : Int) 5 = some m ∧ PP n p m ∧ p.kind = ((1 + j : Nat) : Int) := by
 unfold CM Cs
 by_cases h0 : j = 0
 ·subst h0
  obtain ⟨t, e, ed, h⟩ := new_a n h1 h2
  rw [if_pos (k1t (k := ((1 + 0 : Nat) : Int)) rfl), if_pos (k1t (k := ((1 + 0 : Nat) : Int)) rfl), e, ed, Option.bind_some, Option.bind_some, Option.bind_some]
  exact ⟨_, _, rfl, rfl, .inl ⟨t, _, rfl, rfl, rfl, rfl, h⟩, rfl⟩
 ·obtain rfl : j = 1 := by omega
  obtain ⟨t, s, e, h, hs⟩ := new_t n 5 h1 (by omega)
  have e2 := new_d n 5 h1 (by omega)
  rw [← hs] at e2
  rw [if_neg (k1f (k := ((1 + 1 : Nat) : Int)) rfl), if_neg (k1f (k := ((1 + 1 : Nat) : Int)) rfl), if_pos (k2t (k := ((1 + 1 : Nat) : Int)) rfl), e, e2, Option.bind_some, Option.bind_some, Option.bind_some, Option.bind_some]
  exact ⟨_, _, rfl, rfl, .inr ⟨t, s, _, rfl, rfl, rfl, rfl, h⟩, rfl⟩
end Go.Proofs.YthngfieikhillaaGreat.Pure
namespace Go.Proofs.YthngfieikhillaaGreat.Pure
open Go Go.Proofs.YthngfieikhillaaGreat.Hw Go.Proofs.YthngfieikhillaaGreat
theorem mir1 (l : List AC) (n : Nat) (hn : n ≤ 400) : ∀ (f i : Nat) (p : Ab) (m : Ah), l.length - i < f → i ≤ l.length → i ≤ 50 → PP n p m →
  ∃ p' m', Bp l f (some p) (i : Int) m = some (some p', m') ∧ PP n p' m'
 | 0, i, p, m, hf, _, _, _ => by omega
 | f + 1, i, p, m, hf, hi, h8, h => by
  unfold Bp
  by_cases c : i < l.length ∧ i < 50
  ·obtain ⟨k, hk, hk2⟩ := few9 l[i].Key
   obtain ⟨p1, m1, e1, h1, _⟩ := do_okK h hn l[i] hk hk2
   obtain ⟨p2, m2, e6, h2⟩ := mir1 l n hn f (i + 1) p1 m1 (by omega) (by omega) (by omega) h1
   refine ⟨p2, m2, ?_, h2⟩
   rw [if_pos (by simp; omega), giC, List.getElem?_eq_getElem c.1, Option.bind_some, om_some, e1, Option.bind_some, i64n i (by omega)]
   exact e6
  ·refine ⟨p, m, ?_, h⟩
   rw [if_neg (by simp; omega)]
theorem mir0 (l : List AC) (n : Nat) (hn : n ≤ 400) : ∀ (f i : Nat) (p q : Ab) (m : Ah), l.length - i < f → i ≤ l.length → i ≤ 50 → PP n p m → PP n q m →
  ∃ p' q' m', A9 l f (some q) (i : Int) p = some (.inl (some q', p')) ∧ PP n p' m' ∧ PP n q' m'
 | 0, i, p, q, m, hf, _, _, _, _ => by omega
 | f + 1, i, p, q, m, hf, hi, h8, h, g => by
  unfold A9
  by_cases c : i < l.length ∧ i < 50
  ·obtain ⟨k, hk, hk2⟩ := few9 l[i].Key
   have IH : ∀ (p1 q1 : Ab) (m1 : Ah), PP n p1 m1 → PP n q1 m1 → ∃ p' q' m', A9 l f (some q1) (i64 ((i : Int) + 1)) p1 = some (.inl (some q', p')) ∧ PP n p' m' ∧ PP n q' m' := fun p1 q1 m1 a b => by
    rw [i64n i (by omega)]
    exact mir0 l n hn f (i + 1) p1 q1 m1 (by omega) (by omega) (by omega) a b
   rw [if_pos (by simp; omega), giC, List.getElem?_eq_getElem c.1, Option.bind_some, hk, Option.bind_some]
   by_cases c4 : (l[i].Kind == 4) = true ∨ (l[i].Kind == 5) = true
   ·have e : (if (l[i].Kind == 4) then some (l[i].Kind == 4) else some (l[i].Kind == 5)) = some true := by
     rcases c4 with e | e
     ·rw [if_pos e, e]
     ·by_cases e4 : (l[i].Kind == 4) = true
      ·rw [if_pos e4, e4]
      ·rw [if_neg e4, e]
    obtain ⟨b, p', m', e1, d1, h', _⟩ := h.Touch hn k
    obtain ⟨b2, q', m2, e2, d2, g', _⟩ := g.Touch hn k
    rw [d1] at d2
    obtain ⟨rfl, rfl⟩ := Prod.mk.inj (Option.some.inj d2)
    rw [e, Option.bind_some, if_pos rfl, e1, Option.bind_some, om_some, e2, Option.bind_some, if_neg (by simp), Option.bind_some]
    exact IH _ _ _ h' g'
   ·have f4 : ¬ (l[i].Kind == 4) = true := fun e => c4 (.inl e)
    have f5 : (l[i].Kind == 5) = false := by simpa using fun e => c4 (.inr e)
    rw [if_neg f4, Option.bind_some, f5, if_neg (by decide)]
    by_cases c6 : (l[i].Kind == 6) = true
    ·obtain ⟨b, p', m', e1, d1, h', _⟩ := h.Remove hn k
     obtain ⟨b2, q', m2, e2, d2, g', _⟩ := g.Remove hn k
     rw [d1] at d2
     obtain ⟨rfl, rfl⟩ := Prod.mk.inj (Option.some.inj d2)
     rw [if_pos c6, e1, Option.bind_some, om_some, e2, Option.bind_some, if_neg (by simp), Option.bind_some]
     exact IH _ _ _ h' g'
    ·rw [if_neg c6]
     by_cases c7 : (l[i].Kind == 7) = true
     ·obtain ⟨o, b, p', m', e1, d1, h', _⟩ := h.Evict hn
      obtain ⟨o2, b2, q', m2, e2, d2, g', _⟩ := g.Evict hn
      rw [d1] at d2
      obtain ⟨rfl, d3⟩ := Prod.mk.inj (Option.some.inj d2)
      obtain ⟨rfl, rfl⟩ := Prod.mk.inj d3
      rw [if_pos c7, e1, Option.bind_some, om_some, e2, Option.bind_some, if_neg (by simp), Option.bind_some]
      exact IH _ _ _ h' g'
     ·rw [if_neg c7]
      by_cases c8 : (l[i].Kind == 8) = true
      ·obtain ⟨p', m', e1, d1, h', _⟩ := h.Miss hn hk2
       obtain ⟨q', m2, e2, d2, g', _⟩ := g.Miss hn hk2
       rw [d1] at d2
       obtain rfl := Option.some.inj d2
       rw [if_pos c8, e1, Option.bind_some, om_some, e2, Option.bind_some, Option.bind_some]
       exact IH _ _ _ h' g'
      ·obtain ⟨b, p', m', e1, d1, h', _, hb⟩ := h.Insert hn k
       obtain ⟨b2, q', m2, e2, d2, g', _⟩ := g.Insert hn k
       rw [d1] at d2
       obtain ⟨rfl, rfl⟩ := Prod.mk.inj (Option.some.inj d2)
       rw [if_neg c8, e1, Option.bind_some, om_some, e2, Option.bind_some, texts_eq b (by omega), Option.bind_some, if_neg (by simp), Option.bind_some]
       exact IH _ _ _ h' g'
  ·refine ⟨p, q, m, ?_, h, g⟩
   rw [if_neg (by simp; omega)]
theorem PolicyMirrors (a : Int) (l more : List AC) {p q r u v : Prop} (_ : p) (_ : q) (_ : r) (_ : u) (_ : v) : BZ a l more = some true := by
 obtain ⟨j, hj, hj2⟩ := iand_le a 1 (by decide)
 have hj : iand a 1 = (j : Int) := hj
 have e1 : i64 (1 + iand a 1) = ((1 + j : Nat) : Int) := by rw [hj, i64s _ (by omega) (by omega)]; omega
 obtain ⟨p, m, e3, e4, h, _⟩ := new_p j 6 (by omega) (by omega) (by omega)
 obtain ⟨p', m', e5, h'⟩ := mir1 l 6 (by omega) (((l.length : Int) - 0).toNat + 1) 0 p m (by omega) (by omega) (by omega) h
 obtain ⟨bs, e6, _, q, e7, g, _⟩ := h'.Export (by omega)
 obtain ⟨p2, q2, m2, e8, h2, g2⟩ := mir0 more 6 (by omega) (((more.length : Int) - 0).toNat + 1) 0 p' q m' (by omega) (by omega) (by omega) h' g
 obtain ⟨bs2, e9, e10, _⟩ := h2.Export (by omega)
 obtain ⟨bs3, e11, e12, _⟩ := g2.Export (by omega)
 rw [e10] at e12
 obtain rfl := Option.some.inj e12
 rw [show ((0 : Nat) : Int) = 0 from rfl] at e5 e8
 unfold BZ
 rw [e1, show CM _ 6 5 = _ from e3, Option.bind_some, show Cs _ 6 5 = _ from e4, Option.bind_some, awake9, Option.bind_some, if_neg (by simp), e5, Option.bind_some]
 dsimp only
 rw [om_some, e6, Option.bind_some, e7, Option.bind_some, if_neg (by simp), e8, Option.bind_some]
 dsimp only
 rw [e9, Option.bind_some, om_some, e11, Option.bind_some]
 simp
end Go.Proofs.YthngfieikhillaaGreat.Pure
