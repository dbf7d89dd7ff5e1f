import Derived.Test.YtpanhdnglicknaaGreatW3
import Derived.Test.YtpanhdnglicknaaGreatPskZ
import Derived.Test.YtpanhdnglicknaaGreatPskP
import Derived.Test.YtpanhdnglicknaaGreatPringA
import Derived.Test.YtpanhdnglicknaaGreatPringB
import Derived.Test.YtpanhdnglicknaaGreatPringC
import Derived.Test.YtpanhdnglicknaaGreatPringD
set_option linter.unusedVariables false
set_option linter.unusedSectionVars false
set_option linter.unusedSimpArgs false
set_option maxRecDepth 100000
set_option maxHeartbeats 8000000

namespace Go.Proofs.YtpanhdnglicknaaGreat.Pure
open Go Go.Proofs.YtpanhdnglicknaaGreat.Hw Go.Proofs.YtpanhdnglicknaaGreat

theorem apd_i {α : Type} (bytes : Nat) (l r : List α) (hb : bytes ≤ 48) (hl : l.length + r.length ≤ 1000000) : apd bytes l r = some (l ++ r) := by
  unfold apd
  rw [if_pos]
  calc (l.length + r.length) * bytes ≤ 1000000 * 48 := Nat.mul_le_mul hl hb
    _ ≤ _ := by decide
theorem cor_set {k n : Nat} {S : List ring_slot} {many : List Int} {P : List (List Nat)} (h : Cor k n S many P) {p : Nat} (hp : p ∉ P.flatten) (hk : k ≤ p) (hp2 : p < k + n) (x : ring_slot) : Cor k n (S.set p x) many P := by
  have e : ∀ q, q ≠ p → S0 (S.set p x) q = S0 S q := fun q hq => by unfold S0; rw [getD_set _ _ _ _ (by rw [h.len]; exact hp2), if_neg hq]
  have ne : ∀ i Q, P[i]? = some Q → ∀ q ∈ i :: (Q ++ [i]), q ≠ p := by
    intro i Q hQ q hq
    have hik := h.ikl hQ
    have : q = i ∨ q ∈ Q := by simpa [or_comm] using hq
    rcases this with rfl | h3
    · omega
    · rintro rfl; exact hp (mem_fl hQ h3)
  refine ⟨by rw [List.length_set, h.len], h.pl, h.mn, fun i Q hQ => lk_cg (fun q hq => ?_) (fun q hq => ?_) (h.lk i Q hQ), fun i Q hQ q hq => ?_, h.nd, h.rg⟩
  · unfold nxS; rw [e q (ne i Q hQ q (List.dropLast_sublist _ |>.subset hq))]
  · unfold pvS; rw [e q (ne i Q hQ q (List.mem_of_mem_tail hq))]
  · rw [e q (ne i Q hQ q (by simp [hq]))]; exact h.ow i Q hQ q hq
theorem set_ky {S : List ring_slot} {p : Nat} (x : ring_slot) (hp : p < S.length) (q : Nat) : ky (S.set p x) q = if q = p then x.key else ky S q := by
  unfold ky S0; rw [getD_set _ _ _ _ hp]; split <;> rfl
theorem split_mem {l : List Nat} {p : Nat} (h : p ∈ l) : ∃ A B, l = A ++ p :: B := List.append_of_mem h
theorem mem_ix {L : List (List Str)} {x : Str} (h : x ∈ L.flatten) : ∃ (i : Nat) (l : List Str), L[i]? = some l ∧ x ∈ l := by
  obtain ⟨l, hl, hx⟩ := List.mem_flatten.1 h
  obtain ⟨i, hi, rfl⟩ := List.getElem_of_mem hl
  exact ⟨i, _, List.getElem?_eq_getElem hi, hx⟩
section
variable {k n : Nat} {r : ring_Rings} {L : List (List Str)} {P : List (List Nat)} {f : List Nat}
/-- Where a key that is kept stands. -/
theorem Rg.at_ (h : Rg k n r P f) {key : Str} (hk : key ∈ (keysOf r.slots P).flatten) : ∃ (i : Nat) (A : List Nat) (p : Nat) (B : List Nat), P[i]? = some (A ++ p :: B) ∧ ky r.slots p = key ∧ p ∈ P.flatten ∧ mget r.at_ key = some (p : Int) := by
  obtain ⟨i, l, hl, hx⟩ := mem_ix hk
  obtain ⟨Q, hQ, rfl⟩ := keys_get hl
  obtain ⟨p, hp, rfl⟩ := List.mem_map.1 hx
  obtain ⟨A, B, rfl⟩ := split_mem hp
  have hm := mem_fl hQ hp
  exact ⟨i, A, p, B, hQ, rfl, hm, (h.at1 _ _).2 ⟨p, hm, rfl, rfl⟩⟩
theorem Rg.no (h : Rg k n r P f) {key : Str} (hk : key ∉ (keysOf r.slots P).flatten) : mget r.at_ key = none := by
  cases e : mget r.at_ key with
  | none => rfl
  | some v =>
    obtain ⟨p, hp, _, rfl⟩ := (h.at1 key v).1 e
    rw [keys_fl] at hk
    exact absurd (List.mem_map_of_mem hp) hk
theorem fl_perm {P : List (List Nat)} {i p : Nat} {A B : List Nat} (h : P[i]? = some (A ++ p :: B)) : P.flatten.Perm (p :: (P.set i (A ++ B)).flatten) := by
  obtain ⟨U, V, e1, _, e2⟩ := dec h
  rw [e2, e1]
  simp only [List.flatten_append, List.flatten_cons]
  refine List.perm_iff_count.2 fun x => ?_
  simp only [List.count_append, List.count_cons]; omega
theorem fl_perm2 {P : List (List Nat)} {i p : Nat} {Q : List Nat} (h : P[i]? = some Q) : (P.set i (p :: Q)).flatten.Perm (p :: P.flatten) := by
  obtain ⟨U, V, e1, _, e2⟩ := dec h
  rw [e2, e1]
  simp only [List.flatten_append, List.flatten_cons]
  refine List.perm_iff_count.2 fun x => ?_
  simp only [List.count_append, List.count_cons]; omega
theorem rmK_keys (h : Rg k n r P f) {i p : Nat} {A B : List Nat} (hP : P[i]? = some (A ++ p :: B)) : rmK (keysOf r.slots P) (ky r.slots p) = keysOf r.slots (P.set i (A ++ B)) := by
  have e := keys_get' r.slots hP
  rw [List.map_append, List.map_cons] at e
  rw [rmK_set h.nd e, keys_set, List.map_append]
theorem RR.drop (h : RR k n r L) (hn : n ≤ 4096) (hk8 : k ≤ 8) {key : Str} (hk : key ∈ L.flatten) : ∃ r', ring_Rings_Drop r key = some (true, r') ∧ RR k n r' (rmK L key) := by
  obtain ⟨P, f, h, rfl⟩ := h
  obtain ⟨i, A, p, B, hP, rfl, hm, hg⟩ := h.at_ hk
  obtain ⟨S', m', hc, hco, hlen, hky⟩ := cut_ok h.co hn hP
  have hp := h.co.rg p hm
  have pm := fl_perm hP
  have hnd := pm.nodup_iff.1 h.co.nd
  have hpn := (List.nodup_cons.1 hnd).1
  have hpl : p < S'.length := by rw [hlen, h.co.len]; exact hp.2
  have hfl : f.length ≤ 4096 := by have := h.ct; omega
  unfold ring_Rings_Drop
  rw [hg, if_pos (by rfl), Option.getD_some, hc, Option.bind_some]
  dsimp only
  rw [giN hpl, Option.bind_some, h.fr, apd_i _ _ _ (by decide) (by simp; omega), Option.bind_some, lsC]
  have hsub : ∀ q ∈ (P.set i (A ++ B)).flatten, q ∈ P.flatten ∧ q ≠ p := fun q hq => ⟨pm.symm.subset (List.mem_cons_of_mem _ hq), by rintro rfl; exact hpn hq⟩
  have hk2 : ∀ q ∈ (P.set i (A ++ B)).flatten, ky (S'.set p ⟨[], 0, 0, 0⟩) q = ky r.slots q := fun q hq => by
    rw [set_ky _ hpl, if_neg (hsub q hq).2]; exact hky q
  refine ⟨_, rfl, P.set i (A ++ B), f ++ [p], ⟨cor_set hco hpn hp.1 hp.2 _, h.hl, by simp, ?_, ?_, ?_, h.uk.del _, ?_, ?_⟩, ?_⟩
  · have h1 := h.pm
    have : (P.flatten ++ f).Perm ((P.set i (A ++ B)).flatten ++ (f ++ [p])) := by
      refine List.perm_iff_count.2 fun x => ?_
      have := List.perm_iff_count.1 pm x
      simp only [List.count_append, List.count_cons, List.count_nil] at this ⊢; omega
    exact this.nodup_iff.1 h1
  · intro q hq
    rcases List.mem_append.1 hq with q2 | q2
    · exact h.fg q q2
    · simp at q2; subst q2; exact hp
  · have := pm.length_eq
    have := h.ct
    simp at *; omega
  · intro key v
    rw [mget_del _ _ _ h.uk]
    by_cases e : (key == ky r.slots p) = true
    · rw [if_pos e]
      have := eq_of_beq e; subst this
      constructor
      · intro q; cases q
      · rintro ⟨q, hq, _, e2⟩
        rw [hk2 q hq] at e2
        exact absurd (h.inj (hsub q hq).1 hm e2) (hsub q hq).2
    · rw [if_neg e, h.at1]
      constructor
      · rintro ⟨q, hq, rfl, rfl⟩
        have hqp : q ≠ p := by rintro rfl; exact e (by simp)
        have hq2 : q ∈ (P.set i (A ++ B)).flatten := by
          rcases List.mem_cons.1 (pm.subset hq) with rfl | q2
          · exact absurd rfl hqp
          · exact q2
        exact ⟨q, hq2, rfl, hk2 q hq2⟩
      · rintro ⟨q, hq, rfl, rfl⟩
        exact ⟨q, (hsub q hq).1, rfl, (hk2 q hq).symm⟩
  · intro q hq
    rw [hk2 q hq]; exact h.kl q (hsub q hq).1
  · rw [rmK_keys h hP]
    exact (keys_cg hk2).symm
theorem RR.drop_no (h : RR k n r L) {key : Str} (hk : key ∉ L.flatten) : ring_Rings_Drop r key = some (false, r) := by
  obtain ⟨P, f, h, rfl⟩ := h
  unfold ring_Rings_Drop
  rw [h.no hk, if_neg (by simp)]
  rfl
theorem frK_get {L : List (List Str)} {i : Nat} {key : Str} {l : List Str} (h : (rmK L key)[i]? = some l) : frK L i key = (rmK L key).set i (key :: l) := by
  unfold frK; rw [List.getD_eq_getElem?_getD, h]; rfl
/-- A key that is kept goes to the front of a list. -/
theorem RR.front (h : RR k n r L) (hn : n ≤ 4096) {key : Str} (hk : key ∈ L.flatten) {j : Nat} (hj : j < k) : ∃ r', ring_Rings_Front r (j : Int) key = some (true, r') ∧ RR k n r' (frK L j key) := by
  have his := h.is j
  have hl64 := h.kl key hk
  obtain ⟨P, f, h, rfl⟩ := h
  obtain ⟨i, A, p, B, hP, rfl, hm, hg⟩ := h.at_ hk
  obtain ⟨S', m', hc, hco, hlen, hky⟩ := cut_ok h.co hn hP
  have hp := h.co.rg p hm
  have pm := fl_perm hP
  have hpn := (List.nodup_cons.1 (pm.nodup_iff.1 h.co.nd)).1
  obtain ⟨Q, hQ⟩ : ∃ Q, (P.set i (A ++ B))[j]? = some Q := ⟨_, List.getElem?_eq_getElem (by rw [List.length_set, h.co.pl]; exact hj)⟩
  obtain ⟨S2, m2, hc2, hco2, hlen2, hky2⟩ := link_ok (r := ⟨r.lists, S', r.free, r.at_, m'⟩) hco hn hQ hpn hp.1 hp.2
  have pm2 := fl_perm2 (p := p) hQ
  have pm3 : ((P.set i (A ++ B)).set j (p :: Q)).flatten.Perm P.flatten := pm2.trans pm.symm
  have hkk : ∀ q, ky S2 q = ky r.slots q := fun q => (hky2 q).trans (hky q)
  unfold ring_Rings_Front
  rw [his, if_neg (by simp only [hj, decide_true, Bool.not_true, Bool.false_or, decide_eq_true_eq]; omega), hg, if_pos (by rfl), Option.getD_some, hc, Option.bind_some, hc2, Option.bind_some]
  refine ⟨_, rfl, (P.set i (A ++ B)).set j (p :: Q), f, ⟨hco2, h.hl, h.fr, ?_, h.fg, ?_, h.uk, ?_, ?_⟩, ?_⟩
  · exact (pm3.append_right f).nodup_iff.2 h.pm
  · rw [pm3.length_eq]; exact h.ct
  · intro key v
    rw [h.at1]
    constructor
    · rintro ⟨q, hq, rfl, rfl⟩; exact ⟨q, pm3.symm.subset hq, rfl, hkk q⟩
    · rintro ⟨q, hq, rfl, rfl⟩; exact ⟨q, pm3.subset hq, rfl, (hkk q).symm⟩
  · intro q hq
    show (ky S2 q).length ≤ 64
    rw [hkk]; exact h.kl q (pm3.subset hq)
  · show _ = keysOf S2 _
    rw [keys_cg (S := r.slots) fun q _ => hkk q, keys_set, frK_get (l := Q.map (ky r.slots)), rmK_keys h hP, List.map_cons]
    rw [rmK_keys h hP]; exact keys_get' _ hQ
/-- A key that is not kept finds a place. -/
theorem RR.front_new (h : RR k n r L) (hn : n ≤ 4096) {key : Str} (hk : key ∉ L.flatten) (h64 : key.length ≤ 64) (hroom : L.flatten.length < n) {j : Nat} (hj : j < k) : ∃ r', ring_Rings_Front r (j : Int) key = some (true, r') ∧ RR k n r' (L.set j (key :: L.getD j [])) := by
  have his := h.is j
  obtain ⟨P, f, h, rfl⟩ := h
  rw [keys_fl, List.length_map] at hroom
  have hf : f ≠ [] := by rintro rfl; have := h.ct; rw [List.length_nil] at this; omega
  obtain ⟨f0, p, rfl⟩ : ∃ f0 p, f = f0 ++ [p] := ⟨f.dropLast, f.getLast hf, (List.dropLast_concat_getLast hf).symm⟩
  have hp := h.fg p (by simp)
  have hnd := h.pm
  have hpn : p ∉ P.flatten := by
    rw [List.nodup_append] at hnd
    intro q; exact hnd.2.2 p q p (by simp) rfl
  have hpl : p < r.slots.length := by rw [h.co.len]; exact hp.2
  have hfl : f0.length < 4096 := by have := h.ct; rw [List.length_append, List.length_singleton] at this; omega
  have hg := h.no hk
  obtain ⟨Q, hQ⟩ : ∃ Q, P[j]? = some Q := ⟨_, List.getElem?_eq_getElem (by rw [h.co.pl]; exact hj)⟩
  have e1 : i64 (((r.free.length : Nat) : Int) - 1) = ((f0.length : Nat) : Int) := by
    rw [h.fr, i64s] <;> simp <;> omega
  have e2 : gi r.free ((f0.length : Nat) : Int) = some (p : Int) := by
    unfold gi; rw [if_pos (by omega), h.fr]; simp
  have e3 : sl r.free 0 ((f0.length : Nat) : Int) = some (f0.map fun (p : Nat) => (p : Int)) := by
    unfold sl; rw [h.fr, if_pos (by simp; omega)]; simp
  have e4 : ((r.free.length : Int) == 0) = false := by
    rw [h.fr]; simp; omega
  unfold ring_Rings_Front
  rw [his, if_neg (by simp only [hj, decide_true, Bool.not_true, Bool.false_or, decide_eq_true_eq]; omega), hg, if_neg (by simp), if_neg (by rw [e4]; simp), e1, e2, Option.bind_some, e3, Option.bind_some, giN hpl, Option.bind_some, lsC]
  obtain ⟨S2, m2, hc2, hco2, hlen2, hky2⟩ := link_ok (r := ⟨r.lists, r.slots.set p ⟨key, (List.getD r.slots p default).list, (List.getD r.slots p default).prev, (List.getD r.slots p default).next⟩, f0.map (fun (p : Nat) => (p : Int)), mput r.at_ key (p : Int), r.many⟩) (cor_set h.co hpn hp.1 hp.2 _) hn hQ hpn hp.1 hp.2
  rw [hc2, Option.bind_some]
  have pm2 := fl_perm2 (p := p) hQ
  have hkk : ∀ q, q ≠ p → ky S2 q = ky r.slots q := fun q hq => (hky2 q).trans (by have := set_ky (S := r.slots) ⟨key, (List.getD r.slots p default).list, (List.getD r.slots p default).prev, (List.getD r.slots p default).next⟩ hpl q; rw [if_neg hq] at this; exact this)
  have hkp : ky S2 p = key := (hky2 p).trans (by have := set_ky (S := r.slots) ⟨key, (List.getD r.slots p default).list, (List.getD r.slots p default).prev, (List.getD r.slots p default).next⟩ hpl p; rw [if_pos rfl] at this; exact this)
  have hne : ∀ q ∈ P.flatten, q ≠ p := fun q hq => by rintro rfl; exact hpn hq
  refine ⟨_, rfl, P.set j (p :: Q), f0, ⟨hco2, h.hl, rfl, ?_, ?_, ?_, h.uk.put _ _, ?_, ?_⟩, ?_⟩
  · have : (P.flatten ++ (f0 ++ [p])).Perm ((P.set j (p :: Q)).flatten ++ f0) := by
      refine List.perm_iff_count.2 fun x => ?_
      have := List.perm_iff_count.1 pm2 x
      simp only [List.count_append, List.count_cons, List.count_nil] at this ⊢; omega
    exact this.nodup_iff.1 hnd
  · intro q hq; exact h.fg q (by simp [hq])
  · have := pm2.length_eq
    have := h.ct
    simp at *; omega
  · intro key' v
    show mget (mput r.at_ key (p : Int)) key' = some v ↔ ∃ q ∈ (P.set j (p :: Q)).flatten, v = ((q : Nat) : Int) ∧ ky S2 q = key'
    rw [mget_put]
    by_cases e : (key' == key) = true
    · rw [if_pos e]
      have := eq_of_beq e; subst this
      constructor
      · intro q; cases q; exact ⟨p, pm2.symm.subset (by simp), rfl, hkp⟩
      · rintro ⟨q, hq, rfl, e2⟩
        rcases List.mem_cons.1 (pm2.subset hq) with rfl | q2
        · rfl
        · rw [hkk q (hne q q2)] at e2
          exact absurd (by rw [keys_fl]; exact e2 ▸ List.mem_map_of_mem q2) hk
    · rw [if_neg e, h.at1]
      constructor
      · rintro ⟨q, hq, rfl, rfl⟩; exact ⟨q, pm2.symm.subset (List.mem_cons_of_mem _ hq), rfl, hkk q (hne q hq)⟩
      · rintro ⟨q, hq, rfl, rfl⟩
        rcases List.mem_cons.1 (pm2.subset hq) with rfl | q2
        · rw [hkp] at e; simp at e
        · exact ⟨q, q2, rfl, (hkk q (hne q q2)).symm⟩
  · intro q hq
    show (ky S2 q).length ≤ 64
    rcases List.mem_cons.1 (pm2.subset hq) with rfl | q2
    · rw [hkp]; exact h64
    · rw [hkk q (hne q q2)]; exact h.kl q q2
  · show _ = keysOf S2 _
    have e5 := keys_get' r.slots hQ
    have e6 : keysOf S2 P = keysOf r.slots P := keys_cg fun q hq => hkk q (hne q hq)
    have e7 : Q.map (ky S2) = Q.map (ky r.slots) := List.map_congr_left fun q hq => hkk q (hne q (mem_fl hQ hq))
    rw [keys_set, e6, List.map_cons, hkp, e7, List.getD_eq_getElem?_getD, e5]; rfl
theorem RR.front_full (h : RR k n r L) {key : Str} (hk : key ∉ L.flatten) (hroom : L.flatten.length = n) (j : Nat) : ring_Rings_Front r (j : Int) key = some (false, r) := by
  have ht := h.tot
  have e4 : ((r.free.length : Int) == 0) = true := by simp; exact List.eq_nil_of_length_eq_zero (by omega)
  obtain ⟨P, f, h, rfl⟩ := h
  unfold ring_Rings_Front
  split
  · rfl
  · rw [h.no hk]; rfl
end
end Go.Proofs.YtpanhdnglicknaaGreat.Pure
