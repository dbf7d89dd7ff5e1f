import Derived.Test.YthngfieikhillaaGreatW4
import Derived.Test.YthngfieikhillaaGreatQ0
set_option linter.unusedVariables false
set_option linter.unusedSectionVars false
set_option linter.unusedSimpArgs false
set_option maxRecDepth 100000
set_option maxHeartbeats 8000000
namespace Go.Proofs.YthngfieikhillaaGreat.Pure
open Go Go.Proofs.YthngfieikhillaaGreat.Hw Go.Proofs.YthngfieikhillaaGreat
theorem apd_i {α : Type} (bytes : Nat) (l r : List α) (hb : bytes ≤ 48) (hl : l.length + r.length ≤ 1000000) : apd bytes l r = some (l ++ r) := by
 unfold apd
 rw [if_pos]
 calc (l.length + r.length) * bytes ≤ 1000000 * 48 := Nat.mul_le_mul hl hb
  _ ≤ _ := by decide
theorem cor_set {k n : Nat} {S : List Ap} {many : List Int} {P : List (List Nat)} (h : Cor k n S many P) {p : Nat} (hp : p ∉ P.flatten) (hk : k ≤ p) (hp2 : p < k + n) (x : Ap) : Cor k n (S.set p x) many P := by
 have e : ∀ q, q ≠ p → S0 (S.set p x) q = S0 S q := fun q hq => by unfold S0; rw [getD_set _ _ _ _ (by rw [h.len]; exact hp2), if_neg hq]
 have ne : ∀ i Q, P[i]? = some Q → ∀ q ∈ i :: (Q ++ [i]), q ≠ p := by
  intro i Q hQ q hq
  have hik := h.ikl hQ
  have : q = i ∨ q ∈ Q := by simpa [or_comm] using hq
  rcases this with rfl | h3
  ·omega
  ·rintro rfl; exact hp (mem_fl hQ h3)
 refine ⟨by rw [List.length_set, h.len], h.pl, h.mn, fun i Q hQ => lk_cg (fun q hq => ?_) (fun q hq => ?_) (h.lk i Q hQ), fun i Q hQ q hq => ?_, h.nd, h.rg⟩
 ·unfold nxS; rw [e q (ne i Q hQ q (List.dropLast_sublist _ |>.subset hq))]
 ·unfold pvS; rw [e q (ne i Q hQ q (List.mem_of_mem_tail hq))]
 ·rw [e q (ne i Q hQ q (by simp [hq]))]; exact h.ow i Q hQ q hq
theorem set_ky {S : List Ap} {p : Nat} (x : Ap) (hp : p < S.length) (q : Nat) : ky (S.set p x) q = if q = p then x.key else ky S q := by
 unfold ky S0; rw [getD_set _ _ _ _ hp]; split <;> rfl
theorem split_mem {l : List Nat} {p : Nat} (h : p ∈ l) : ∃ A B, l = A ++ p :: B := List.append_of_mem h
theorem mem_ix {L : List (List Str)} {x : Str} (h : x ∈ L.flatten) : ∃ (i : Nat) (l : List Str), L[i]? = some l ∧ x ∈ l := by
 obtain ⟨l, hl, hx⟩ := List.mem_flatten.1 h
 obtain ⟨i, hi, rfl⟩ := List.getElem_of_mem hl
 exact ⟨i, _, List.getElem?_eq_getElem hi, hx⟩
section
variable {k n : Nat} {r : Ae} {L : List (List Str)} {P : List (List Nat)} {f : List Nat}
theorem Rg.at_ (h : Rg k n r P f) {key : Str} (hk : key ∈ (keysOf r.slots P).flatten) : ∃ (i : Nat) (A : List Nat) (p : Nat) (B : List Nat), P[i]? = some (A ++ p :: B) ∧ ky r.slots p = key ∧ p ∈ P.flatten ∧ mget r.at_ key = some (p : Int) := by
 obtain ⟨i, l, hl, hx⟩ := mem_ix hk
 obtain ⟨Q, hQ, rfl⟩ := keys_get hl
 obtain ⟨p, hp, rfl⟩ := List.mem_map.1 hx
 obtain ⟨A, B, rfl⟩ := split_mem hp
 have hm := mem_fl hQ hp
 exact ⟨i, A, p, B, hQ, rfl, hm, (h.at1 _ _).2 ⟨p, hm, rfl, rfl⟩⟩
theorem Rg.no (h : Rg k n r P f) {key : Str} (hk : key ∉ (keysOf r.slots P).flatten) : mget r.at_ key = none := by
 cases e : mget r.at_ key with
 | none => rfl
 | some v =>
  obtain ⟨p, hp, _, rfl⟩ := (h.at1 key v).1 e
  rw [keys_fl] at hk
  exact absurd (List.mem_map_of_mem hp) hk
theorem fl_perm {P : List (List Nat)} {i p : Nat} {A B : List Nat} (h : P[i]? = some (A ++ p :: B)) : P.flatten.Perm (p :: (P.set i (A ++ B)).flatten) := by
 obtain ⟨U, V, e1, _, e2⟩ := dec h
 rw [e2, e1]
 simp only [List.flatten_append, List.flatten_cons]
 refine List.perm_iff_count.2 fun x => ?_
 simp only [List.count_append, List.count_cons]; omega
theorem fl_perm2 {P : List (List Nat)} {i p : Nat} {Q : List Nat} (h : P[i]? = some Q) : (P.set i (p :: Q)).flatten.Perm (p :: P.flatten) := by
 obtain ⟨U, V, e1, _, e2⟩ := dec h
 rw [e2, e1]
 simp only [List.flatten_append, List.flatten_cons]
 refine List.perm_iff_count.2 fun x => ?_
 simp only [List.count_append, List.count_cons]; omega
theorem rmK_keys (h : Rg k n r P f) {i p : Nat} {A B : List Nat} (hP : P[i]? = some (A ++ p :: B)) : rmK (keysOf r.slots P) (ky r.slots p) = keysOf r.slots (P.set i (A ++ B)) := by
 have e := keys_get' r.slots hP
 rw [List.map_append, List.map_cons] at e
 rw [rmK_set h.nd e, keys_set, List.map_append]
theorem RR.drop (h : RR k n r L) (hn : n ≤ 4096) (hk8 : k ≤ 8) {key : Str} (hk : key ∈ L.flatten) : ∃ r', AK r key = some (true, r') ∧ RR k n r' (rmK L key) := by
 obtain ⟨P, f, h, rfl⟩ := h
 obtain ⟨i, A, p, B, hP, rfl, hm, hg⟩ := h.at_ hk
 obtain ⟨S', m', hc, hco, hlen, hky⟩ := cut_ok h.co hn hP
 have hp := h.co.rg p hm
 have pm := fl_perm hP
 have hnd := pm.nodup_iff.1 h.co.nd
 have hpn := (List.nodup_cons.1 hnd).1
 have hpl : p < S'.length := by rw [hlen, h.co.len]; exact hp.2
 have hfl : f.length ≤ 4096 := by have := h.ct; omega
 unfold AK
 rw [hg, if_pos (by rfl), Option.getD_some, hc, Option.bind_some]
 dsimp only
 rw [giN hpl, Option.bind_some, h.fr, apd_i _ _ _ (by decide) (by simp; omega), Option.bind_some, lsC]
 have hsub : ∀ q ∈ (P.set i (A ++ B)).flatten, q ∈ P.flatten ∧ q ≠ p := fun q hq => ⟨pm.symm.subset (List.mem_cons_of_mem _ hq), by rintro rfl; exact hpn hq⟩
 have hk2 : ∀ q ∈ (P.set i (A ++ B)).flatten, ky (S'.set p ⟨[], 0, 0, 0⟩) q = ky r.slots q := fun q hq => by
  rw [set_ky _ hpl, if_neg (hsub q hq).2]; exact hky q
 refine ⟨_, rfl, P.set i (A ++ B), f ++ [p], ⟨cor_set hco hpn hp.1 hp.2 _, h.hl, by simp, ?_, ?_, ?_, h.uk.del _, ?_, ?_⟩, ?_⟩
 ·have h1 := h.pm
  have : (P.flatten ++ f).Perm ((P.set i (A ++ B)).flatten ++ (f ++ [p])) := by
   refine List.perm_iff_count.2 fun x => ?_
   have := List.perm_iff_count.1 pm x
   simp only [List.count_append, List.count_cons, List.count_nil] at this ⊢; omega
  exact this.nodup_iff.1 h1
 ·intro q hq
  rcases List.mem_append.1 hq with q2 | q2
  ·exact h.fg q q2
  ·simp at q2; subst q2; exact hp
 ·have := pm.length_eq
  have := h.ct
  simp at *; omega
 ·intro key v
  rw [mget_del _ _ _ h.uk]
  by_cases e : (key == ky r.slots p) = true
  ·rw [if_pos e]
   have := eq_of_beq e; subst this
   constructor
   ·intro q; cases q
   ·rintro ⟨q, hq, _, e2⟩
    rw [hk2 q hq] at e2
    exact absurd (h.inj (hsub q hq).1 hm e2) (hsub q hq).2
  ·rw [if_neg e, h.at1]
   constructor
   ·rintro ⟨q, hq, rfl, rfl⟩
    have hqp : q ≠ p := by rintro rfl; exact e (by simp)
    have hq2 : q ∈ (P.set i (A ++ B)).flatten := by
     rcases List.mem_cons.1 (pm.subset hq) with rfl | q2
     ·exact absurd rfl hqp
     ·exact q2
    exact ⟨q, hq2, rfl, hk2 q hq2⟩
   ·rintro ⟨q, hq, rfl, rfl⟩
    exact ⟨q, (hsub q hq).1, rfl, (hk2 q hq).symm⟩
 ·intro q hq
  rw [hk2 q hq]; exact h.kl q (hsub q hq).1
 ·rw [rmK_keys h hP]
  exact (keys_cg hk2).symm
theorem RR.drop_no (h : RR k n r L) {key : Str} (hk : key ∉ L.flatten) : AK r key = some (false, r) := by
 obtain ⟨P, f, h, rfl⟩ := h
 unfold AK
 rw [h.no hk, if_neg (by simp)]
 rfl
theorem frK_get {L : List (List Str)} {i : Nat} {key : Str} {l : List Str} (h : (rmK L key)[i]? = some l) : frK L i key = (rmK L key).set i (key :: l) := by
 unfold frK; rw [List.getD_eq_getElem?_getD, h]; rfl
theorem RR.front (h : RR k n r L) (hn : n ≤ 4096) {key : Str} (hk : key ∈ L.flatten) {j : Nat} (hj : j < k) : ∃ r', Aw r (j : Int) key = some (true, r') ∧ RR k n r' (frK L j key) := by
 have his := h.is j
 have hl64 := h.kl key hk
 obtain ⟨P, f, h, rfl⟩ := h
 obtain ⟨i, A, p, B, hP, rfl, hm, hg⟩ := h.at_ hk
 obtain ⟨S', m', hc, hco, hlen, hky⟩ := cut_ok h.co hn hP
 have hp := h.co.rg p hm
 have pm := fl_perm hP
 have hpn := (List.nodup_cons.1 (pm.nodup_iff.1 h.co.nd)).1
 obtain ⟨Q, hQ⟩ : ∃ Q, (P.set i (A ++ B))[j]? = some Q := ⟨_, List.getElem?_eq_getElem (by rw [List.length_set, h.co.pl]; exact hj)⟩
 obtain ⟨S2, m2, hc2, hco2, hlen2, hky2⟩ := link_ok (r := ⟨r.lists, S', r.free, r.at_, m'⟩) hco hn hQ hpn hp.1 hp.2
 have pm2 := fl_perm2 (p := p) hQ
 have pm3 : ((P.set i (A ++ B)).set j (p :: Q)).flatten.Perm P.flatten := pm2.trans pm.symm
 have hkk : ∀ q, ky S2 q = ky r.slots q := fun q => (hky2 q).trans (hky q)
 unfold Aw
 rw [his, if_neg (by simp only [hj, decide_true, Bool.not_true, Bool.false_or, decide_eq_true_eq]; omega), hg, if_pos (by rfl), Option.getD_some, hc, Option.bind_some, hc2, Option.bind_some]
 refine ⟨_, rfl, (P.set i (A ++ B)).set j (p :: Q), f, ⟨hco2, h.hl, h.fr, ?_, h.fg, ?_, h.uk, ?_, ?_⟩, ?_⟩
 ·exact (pm3.append_right f).nodup_iff.2 h.pm
 ·rw [pm3.length_eq]; exact h.ct
 ·intro key v
  rw [h.at1]
  constructor
  ·rintro ⟨q, hq, rfl, rfl⟩; exact ⟨q, pm3.symm.subset hq, rfl, hkk q⟩
  ·rintro ⟨q, hq, rfl, rfl⟩; exact ⟨q, pm3.subset hq, rfl, (hkk q).symm⟩
 ·intro q hq
  show (ky S2 q).length ≤ 64
  rw [hkk]; exact h.kl q (pm3.subset hq)
 ·show _ = keysOf S2 _
  rw [keys_cg (S := r.slots) fun q _ => hkk q, keys_set, frK_get (l := Q.map (ky r.slots)), rmK_keys h hP, List.map_cons]
  rw [rmK_keys h hP]; exact keys_get' _ hQ
theorem RR.front_new (h : RR k n r L) (hn : n ≤ 4096) {key : Str} (hk : key ∉ L.flatten) (h64 : key.length ≤ 64) (hroom : L.flatten.length < n) {j : Nat} (hj : j < k) : ∃ r', Aw r (j : Int) key = some (true, r') ∧ RR k n r' (L.set j (key :: L.getD j [])) := by
 have his := h.is j
 obtain ⟨P, f, h, rfl⟩ := h
 rw [keys_fl, List.length_map] at hroom
 have hf : f ≠ [] := by rintro rfl; have := h.ct; rw [List.length_nil] at this; omega
 obtain ⟨f0, p, rfl⟩ : ∃ f0 p, f = f0 ++ [p] := ⟨f.dropLast, f.getLast hf, (List.dropLast_concat_getLast hf).symm⟩
 have hp := h.fg p (by simp)
 have hnd := h.pm
 have hpn : p ∉ P.flatten := by
  rw [List.nodup_append] at hnd
  intro q; exact hnd.2.2 p q p (by simp) rfl
 have hpl : p < r.slots.length := by rw [h.co.len]; exact hp.2
 have hfl : f0.length < 4096 := by have := h.ct; rw [List.length_append, List.length_singleton] at this; omega
 have hg := h.no hk
 obtain ⟨Q, hQ⟩ : ∃ Q, P[j]? = some Q := ⟨_, List.getElem?_eq_getElem (by rw [h.co.pl]; exact hj)⟩
 have e1 : i64 (((r.free.length : Nat) : Int) - 1) = ((f0.length : Nat) : Int) := by
  rw [h.fr, i64s] <;> simp <;> omega
 have e2 : gi r.free ((f0.length : Nat) : Int) = some (p : Int) := by
  unfold gi; rw [if_pos (by omega), h.fr]; simp
 have e3 : sl r.free 0 ((f0.length : Nat) : Int) = some (f0.map fun (p : Nat) => (p : Int)) := by
  unfold sl; rw [h.fr, if_pos (by simp; omega)]; simp
 have e4 : ((r.free.length : Int) == 0) = false := by
  rw [h.fr]; simp; omega
 unfold Aw
 rw [his, if_neg (by simp only [hj, decide_true, Bool.not_true, Bool.false_or, decide_eq_true_eq]; omega), hg, if_neg (by simp), if_neg (by rw [e4]; simp), e1, e2, Option.bind_some, e3, Option.bind_some, giN hpl, Option.bind_some, lsC]
 obtain ⟨S2, m2, hc2, hco2, hlen2, hky2⟩ := link_ok (r := ⟨r.lists, r.slots.set p ⟨key, (List.getD r.slots p default).list, (List.getD r.slots p default).prev, (List.getD r.slots p default).next⟩, f0.map (fun (p : Nat) => (p : Int)), mput r.at_ key (p : Int), r.many⟩) (cor_set h.co hpn hp.1 hp.2 _) hn hQ hpn hp.1 hp.2
 rw [hc2, Option.bind_some]
 have pm2 := fl_perm2 (p := p) hQ
 have hkk : ∀ q, q ≠ p → ky S2 q = ky r.slots q := fun q hq => (hky2 q).trans (by have := set_ky (S := r.slots) ⟨key, (List.getD r.slots p default).list, (List.getD r.slots p default).prev, (List.getD r.slots p default).next⟩ hpl q; rw [if_neg hq] at this; exact this)
 have hkp : ky S2 p = key := (hky2 p).trans (by have := set_ky (S := r.slots) ⟨key, (List.getD r.slots p default).list, (List.getD r.slots p default).prev, (List.getD r.slots p default).next⟩ hpl p; rw [if_pos rfl] at this; exact this)
 have hne : ∀ q ∈ P.flatten, q ≠ p := fun q hq => by rintro rfl; exact hpn hq
 refine ⟨_, rfl, P.set j (p :: Q), f0, ⟨hco2, h.hl, rfl, ?_, ?_, ?_, h.uk.put _ _, ?_, ?_⟩, ?_⟩
 ·have : (P.flatten ++ (f0 ++ [p])).Perm ((P.set j (p :: Q)).flatten ++ f0) := by
   refine List.perm_iff_count.2 fun x => ?_
   have := List.perm_iff_count.1 pm2 x
   simp only [List.count_append, List.count_cons, List.count_nil] at this ⊢; omega
  exact this.nodup_iff.1 hnd
 ·intro q hq; exact h.fg q (by simp [hq])
 ·have := pm2.length_eq
  have := h.ct
  simp at *; omega
 ·intro key' v
  show mget (mput r.at_ key (p : Int)) key' = some v ↔ ∃ q ∈ (P.set j (p :: Q)).flatten, v = ((q : Nat) : Int) ∧ ky S2 q = key'
  rw [mget_put]
  by_cases e : (key' == key) = true
  ·rw [if_pos e]
   have := eq_of_beq e; subst this
   constructor
   ·intro q; cases q; exact ⟨p, pm2.symm.subset (by simp), rfl, hkp⟩
   ·rintro ⟨q, hq, rfl, e2⟩
    rcases List.mem_cons.1 (pm2.subset hq) with rfl | q2
    ·rfl
    ·rw [hkk q (hne q q2)] at e2
     exact absurd (by rw [keys_fl]; exact e2 ▸ List.mem_map_of_mem q2) hk
  ·rw [if_neg e, h.at1]
   constructor
   ·rintro ⟨q, hq, rfl, rfl⟩; exact ⟨q, pm2.symm.subset (List.mem_cons_of_mem _ hq), rfl, hkk q (hne q hq)⟩
   ·rintro ⟨q, hq, rfl, rfl⟩
    rcases List.mem_cons.1 (pm2.subset hq) with rfl | q2
    ·rw [hkp] at e; simp at e
    ·exact ⟨q, q2, rfl, (hkk q (hne q q2)).symm⟩
 ·intro q hq
  show (ky S2 q).length ≤ 64
  rcases List.mem_cons.1 (pm2.subset hq) with rfl | q2
  ·rw [hkp]; exact h64
  ·rw [hkk q (hne q q2)]; exact h.kl q q2
 ·show _ = keysOf S2 _
  have e5 := keys_get' r.slots hQ
  have e6 : keysOf S2 P = keysOf r.slots P := keys_cg fun q hq => hkk q (hne q hq)
  have e7 : Q.map (ky S2) = Q.map (ky r.slots) := List.map_congr_left fun q hq => hkk q (hne q (mem_fl hQ hq))
  rw [keys_set, e6, List.map_cons, hkp, e7, List.getD_eq_getElem?_getD, e5]; rfl
end
end Go.Proofs.YthngfieikhillaaGreat.Pure
namespace Go.Proofs.YthngfieikhillaaGreat.Pure
open Go Go.Proofs.YthngfieikhillaaGreat.Hw Go.Proofs.YthngfieikhillaaGreat
theorem new_l3 (k n : Nat) (hk : k ≤ 8) (hn : n ≤ 4096) : ∀ (f s : Nat) (c : List Ap), f = k - s + 1 → s ≤ k → c.length = k + n →
  ∃ c', Dg (k : Int) f (s : Int) c = some c' ∧ c'.length = k + n ∧ ∀ q, S0 c' q = if s ≤ q ∧ q < k then ⟨[], (q : Int), (q : Int), (q : Int)⟩ else S0 c q := by
 intro f
 induction f with
 | zero => intro s c h; omega
 | succ f ih =>
  intro s c hf hs hc
  unfold Dg
  by_cases h : s < k
  ·rw [if_pos (by simp; omega), giN (by omega), Option.bind_some, lsC, show i64 ((s : Int) + 1) = ((s + 1 : Nat) : Int) by rw [i64s] <;> omega]
   obtain ⟨c', e, hl, hq⟩ := ih (s + 1) (c.set s ⟨[], (s : Int), (s : Int), (s : Int)⟩) (by omega) (by omega) (by rw [List.length_set, hc])
   refine ⟨c', e, hl, fun q => ?_⟩
   rw [hq]
   unfold S0
   rw [getD_set _ _ _ _ (by omega)]
   by_cases e1 : q = s
   ·subst e1; rw [if_neg (by omega), if_pos rfl, if_pos (by omega)]
   ·rw [if_neg e1]
    by_cases e2 : s + 1 ≤ q ∧ q < k
    ·rw [if_pos e2, if_pos (by omega)]
    ·rw [if_neg e2, if_neg (by omega)]
  ·rw [if_neg (by simp; omega)]
   exact ⟨c, rfl, hc, fun q => by rw [if_neg (by omega)]⟩
theorem new_l2 (k : Nat) (hk : k ≤ 8) : ∀ (m : Nat) (c : List Int), m ≤ 4096 → c.length + m ≤ 5000 → De (k : Int) (m + 1) ((m : Int) - 1) c = some (c ++ ((List.range m).reverse.map fun j => ((k + j : Nat) : Int))) := by
 intro m
 induction m with
 | zero => intro c _ _; unfold De; rw [if_neg (by simp)]; simp
 | succ m ih =>
  intro c h1 h2
  unfold De
  have e1 : ((m + 1 : Nat) : Int) - 1 = (m : Int) := by omega
  rw [e1, if_pos (by simp), apd_i _ _ _ (by decide) (by simp; omega), Option.bind_some, i64s _ (by omega) (by omega), i64s _ (by omega) (by omega), ih _ (by omega) (by simp; omega), List.range_succ]
  simp
theorem mks_i {α : Type} (bytes w : Nat) (z : α) (hb : bytes ≤ 48) (hw : w ≤ 5000) : mks bytes (w : Int) z = some (List.replicate w z) := by
 have : bytes * w ≤ 48 * 5000 := Nat.mul_le_mul hb hw
 unfold mks
 rw [if_pos (by refine ⟨by omega, ?_, by omega⟩; rw [← Int.natCast_mul]; omega)]
 rfl
theorem new_ok (k n : Nat) (h1 : 1 ≤ k) (hk : k ≤ 8) (hn : n ≤ 4096) : ∃ r, C0 (k : Int) (n : Int) = some (some r, 0) ∧ RR k n r (List.replicate k []) := by
 have e1 : i64 ((k : Int) + (n : Int)) = ((k + n : Nat) : Int) := by rw [i64s] <;> omega
 have e2 : i64 ((n : Int) - 1) = (n : Int) - 1 := by rw [i64s] <;> omega
 obtain ⟨S, e3, hl, hq⟩ := new_l3 k n hk hn (k - 0 + 1) 0 (List.replicate (k + n) ⟨[], 0, 0, 0⟩) rfl (by omega) (by simp)
 have e4 := new_l2 k hk n [] hn (by simp; omega)
 have f1 : (((k : Int) - 0).toNat + 1) = k - 0 + 1 := by omega
 have f2 : (((n : Int) - 1 + 1).toNat + 1) = n + 1 := by omega
 unfold C0
 rw [if_neg (by simp only [Bool.or_eq_true, decide_eq_true_eq]; omega), mks_i 8 k _ (by decide) (by omega), Option.bind_some, e1, mks_i 40 (k + n) _ (by decide) (by omega), Option.bind_some, f1]
 have e3' : Dg (k : Int) (k - 0 + 1) 0 (List.replicate (k + n) ⟨[], 0, 0, 0⟩) = some S := e3
 rw [e3', Option.bind_some, e2, f2, e4, Option.bind_some]
 have fl : (List.replicate k ([] : List Nat)).flatten = [] := by simp
 refine ⟨_, rfl, List.replicate k [], (List.range n).reverse.map fun j => k + j, ⟨⟨hl, by simp, by simp [lens], ?_, ?_, by rw [fl]; exact List.nodup_nil, by rw [fl]; simp⟩, rfl, ?_, ?_, ?_, ?_, ?_, ?_, ?_⟩, ?_⟩
 ·intro i Q hQ
  rw [List.getElem?_replicate] at hQ
  split at hQ
  ·rename_i hi; cases hQ
   have a := hq i
   rw [if_pos (by omega)] at a
   refine ⟨?_, ?_, trivial⟩
   ·unfold nxS; rw [a]
   ·unfold pvS; rw [a]
  ·cases hQ
 ·intro i Q hQ
  rw [List.getElem?_replicate] at hQ
  split at hQ
  ·cases hQ; simp
  ·cases hQ
 ·simp
 ·rw [fl, List.nil_append]
  have : (List.range n).reverse.Nodup := (List.reverse_perm _).nodup_iff.2 List.nodup_range
  unfold List.Nodup at this ⊢
  rw [List.pairwise_map]
  exact this.imp (fun h => by omega)
 ·intro p hp
  simp only [List.mem_map, List.mem_reverse, List.mem_range] at hp
  obtain ⟨j, hj, rfl⟩ := hp
  omega
 ·rw [fl]; simp
 ·exact List.nodup_nil
 ·intro key v; rw [fl]; simp [mget]
 ·rw [fl]; simp
 ·unfold keysOf; simp
end Go.Proofs.YthngfieikhillaaGreat.Pure
namespace Go.Proofs.YthngfieikhillaaGreat.Pure
open Go Go.Proofs.YthngfieikhillaaGreat.Hw Go.Proofs.YthngfieikhillaaGreat
structure TL where
 a : List Str
 b : List Str
 c : List Str
namespace TL
abbrev L (x : TL) : List (List Str) := [x.a, x.b, x.c]
def all (x : TL) : List Str := x.a ++ (x.b ++ x.c)
def rm (l : List Str) (k : Str) : List Str := l.filter fun x => !(x == k)
def drop (x : TL) (k : Str) : TL := ⟨rm x.a k, rm x.b k, rm x.c k⟩
def fr0 (x : TL) (k : Str) : TL := ⟨k :: (x.drop k).a, (x.drop k).b, (x.drop k).c⟩
def fr1 (x : TL) (k : Str) : TL := ⟨(x.drop k).a, k :: (x.drop k).b, (x.drop k).c⟩
def fr2 (x : TL) (k : Str) : TL := ⟨(x.drop k).a, (x.drop k).b, k :: (x.drop k).c⟩
def n (x : TL) : Nat := x.a.length + x.b.length + x.c.length
end TL
theorem fl_all (x : TL) : x.L.flatten = x.all := by simp [TL.L, TL.all]
theorem all_n (x : TL) : x.all.length = x.n := by unfold TL.all TL.n; simp; omega
def Wn (n : Nat) : Nat := max 1 (n / 8)
def Sf (n : Nat) : Nat := (n - Wn n) * 4 / 5
def wd (n : Nat) : Nat := min (8 * n) 4096
theorem Wn_le {n : Nat} (h : 1 ≤ n) : Wn n ≤ n := by unfold Wn; omega
theorem parts_c (n : Nat) (h : n ≤ 1000) (h1 : 1 ≤ n) : AB (n : Int) = ⟨(Wn n : Int), (Sf n : Int)⟩ := by
 have e1 : i64 ((n : Int).tdiv 8) = ((n / 8 : Nat) : Int) := by
  rw [show (n : Int).tdiv 8 = ((n / 8 : Nat) : Int) by rw [Int.tdiv_eq_ediv_of_nonneg (by omega)]; omega, i64s _ (by omega) (by omega)]
 have e2 : (if (1 : Int) < ((n / 8 : Nat) : Int) then ((n / 8 : Nat) : Int) else 1) = (Wn n : Int) := by
  unfold Wn; split <;> omega
 have hw := Wn_le h1
 have e3 : i64 ((n : Int) - (Wn n : Int)) = ((n - Wn n : Nat) : Int) := by rw [i64s _ (by omega) (by omega)]; omega
 have e4 : i64 (((n - Wn n : Nat) : Int) * 4) = (((n - Wn n) * 4 : Nat) : Int) := by rw [i64s _ (by omega) (by omega)]; omega
 have e5 : (((n - Wn n) * 4 : Nat) : Int).tdiv 5 = ((Sf n : Nat) : Int) := by
  unfold Sf
  rw [Int.tdiv_eq_ediv_of_nonneg (by omega)]; omega
 have e6 : i64 ((Sf n : Nat) : Int) = (Sf n : Int) := by
  have : Sf n ≤ 1000 := by unfold Sf; omega
  rw [i64s _ (by omega) (by omega)]
 unfold AB
 rw [e1, e2, e3, e4, e5, e6]
theorem wide_c (n : Nat) (h : n ≤ 1000) : B6 (n : Int) = (wd n : Int) := by
 unfold B6 wd
 rw [i64s _ (by omega) (by omega)]
 split <;> omega
open Classical in
noncomputable def plc (w : Nat) (seed : UInt64) (key : Str) : Ps := if h : ∃ p, Pk w seed key p then h.choose else ⟨0, 0, 0, 0, 0⟩
theorem plc_ok {w : Nat} {seed : UInt64} {key : Str} (h1 : 1 ≤ w) (h2 : w ≤ 4096) (hk : key.length ≤ 100000) : Pk w seed key (plc w seed key) := by
 have h := pk_ex w seed key h1 h2 hk
 unfold plc
 rw [dif_pos h]
 exact h.choose_spec
noncomputable def ad (w : Nat) (seed : UInt64) (s : Sk) (key : Str) : Sk := s.put w (plc w seed key)
noncomputable def sn (w : Nat) (seed : UInt64) (s : Sk) (key : Str) : Nat := s.seen (plc w seed key)
structure TR (n : Nat) (seed : UInt64) (t : Ak) (s : Sk) (x : TL) : Prop where
 n1 : 1 ≤ n
 n2 : n ≤ 1000
 ms : t.most = (n : Int)
 sk : t.s = some (s.C (wd n) seed)
 ok : s.ok (wd n)
 rg : ∃ r, t.r = some r ∧ RR 3 (n + 1) r x.L
 bb : x.b.length + x.c.length + Wn n ≤ n
 ba : x.a.length ≤ Wn n
 bc : x.c.length ≤ Sf n
theorem TR.bn {n : Nat} {seed : UInt64} {t : Ak} {s : Sk} {x : TL} (h : TR n seed t s x) : x.n ≤ n := by have := h.bb; have := h.ba; unfold TL.n; omega
theorem frL0 (x : TL) (k : Str) : frK x.L 0 k = (x.fr0 k).L := rfl
theorem frL1 (x : TL) (k : Str) : frK x.L 1 k = (x.fr1 k).L := rfl
theorem frL2 (x : TL) (k : Str) : frK x.L 2 k = (x.fr2 k).L := rfl
theorem rmL (x : TL) (k : Str) : rmK x.L k = (x.drop k).L := rfl
section
variable {k m : Nat} {r : Ae} {L : List (List Str)}
theorem RR.frontA (h : RR k m r L) (hm : m ≤ 4096) {key : Str} (h64 : key.length ≤ 64) (hr : key ∈ L.flatten ∨ L.flatten.length < m) {j : Nat} (hj : j < k) : ∃ r', Aw r (j : Int) key = some (true, r') ∧ RR k m r' (frK L j key) := by
 by_cases hk : key ∈ L.flatten
 ·exact h.front hm hk hj
 ·have e : frK L j key = L.set j (key :: L.getD j []) := by unfold frK; rw [rmK_no hk]
  rw [e]
  exact h.front_new hm hk h64 (hr.resolve_left hk) hj
theorem RR.dropA (h : RR k m r L) (hm : m ≤ 4096) (hk : k ≤ 8) (key : Str) : ∃ r', AK r key = some (decide (key ∈ L.flatten), r') ∧ RR k m r' (rmK L key) := by
 by_cases hk2 : key ∈ L.flatten
 ·obtain ⟨r', e, q⟩ := h.drop hm hk hk2
  exact ⟨r', by rw [e]; simp [hk2], q⟩
 ·exact ⟨r, by rw [h.drop_no hk2]; simp [hk2], by rw [rmK_no hk2]; exact h⟩
end
theorem rm_mem {l : List Str} {k x : Str} : x ∈ TL.rm l k ↔ x ∈ l ∧ x ≠ k := by unfold TL.rm; simp
theorem rm_no {l : List Str} {k : Str} (h : k ∉ l) : TL.rm l k = l := filter_no h
theorem rm_le (l : List Str) (k : Str) : (TL.rm l k).length ≤ l.length := List.length_filter_le _ _
theorem rm_perm {l : List Str} {k : Str} (hn : l.Nodup) (h : k ∈ l) : l.Perm (k :: TL.rm l k) := by
 obtain ⟨A, B, rfl⟩ := List.append_of_mem h
 have pm : (A ++ k :: B).Perm (k :: (A ++ B)) := List.perm_middle
 have hk := (List.nodup_cons.1 (pm.nodup_iff.1 hn)).1
 simp only [List.mem_append, not_or] at hk
 have e : TL.rm (A ++ k :: B) k = A ++ B := by
  unfold TL.rm
  rw [List.filter_append, List.filter_cons, if_neg (by simp), filter_no hk.1, filter_no hk.2]
 rw [e]; exact pm
theorem rm_len {l : List Str} {k : Str} (hn : l.Nodup) (h : k ∈ l) : (TL.rm l k).length + 1 = l.length := by
 have := (rm_perm hn h).length_eq; simpa using this.symm
theorem rm_app (l m : List Str) (k : Str) : TL.rm (l ++ m) k = TL.rm l k ++ TL.rm m k := by unfold TL.rm; rw [List.filter_append]
theorem drop_all (x : TL) (k : Str) : (x.drop k).all = TL.rm x.all k := by unfold TL.drop TL.all; rw [rm_app, rm_app]
theorem fr0_all (x : TL) (k : Str) : (x.fr0 k).all.Perm (k :: TL.rm x.all k) := by rw [← drop_all]; exact List.Perm.refl _
theorem fr1_all (x : TL) (k : Str) : (x.fr1 k).all.Perm (k :: TL.rm x.all k) := by
 rw [← drop_all]; unfold TL.fr1 TL.all
 refine List.perm_iff_count.2 fun y => ?_
 simp only [List.count_append, List.count_cons]; omega
theorem fr2_all (x : TL) (k : Str) : (x.fr2 k).all.Perm (k :: TL.rm x.all k) := by
 rw [← drop_all]; unfold TL.fr2 TL.all
 refine List.perm_iff_count.2 fun y => ?_
 simp only [List.count_append, List.count_cons]; omega
theorem perm_mem {l m : List Str} {k : Str} (hp : m.Perm (k :: TL.rm l k)) (hk : k ∈ l) (hn : l.Nodup) : m.Perm l := hp.trans (rm_perm hn hk).symm
section
variable {n : Nat} {seed : UInt64} {t : Ak} {s : Sk} {x : TL}
theorem TR.nd (h : TR n seed t s x) : x.all.Nodup := by
 obtain ⟨r, _, hr⟩ := h.rg; have := hr.nd; rw [fl_all] at this; exact this
theorem TR.kl (h : TR n seed t s x) : ∀ k ∈ x.all, k.length ≤ 64 := by
 obtain ⟨r, _, hr⟩ := h.rg; have := hr.kl; rw [fl_all] at this; exact this
theorem TR.w1 (h : TR n seed t s x) : 1 ≤ wd n := by have := h.n1; unfold wd; omega
theorem TR.w2 (_ : TR n seed t s x) : wd n ≤ 4096 := by unfold wd; omega
theorem TR.Has (h : TR n seed t s x) (key : Str) : Cp t key = some (decide (key ∈ x.all)) := by
 obtain ⟨r, hr, hR⟩ := h.rg
 unfold Cp
 rw [hr, om_some]
 by_cases hk : key ∈ x.L.flatten
 ·obtain ⟨i, l, hl, hx⟩ := mem_ix hk
  rw [hR.in_some hl hx, Option.bind_some]; rw [fl_all] at hk; simp [hk]
 ·rw [hR.in_none hk, Option.bind_some]; rw [fl_all] at hk; simp [hk]
theorem TR.Len (h : TR n seed t s x) : AI t = some (x.n : Int) := by
 obtain ⟨r, hr, hR⟩ := h.rg
 have := h.bn
 have := h.n2
 unfold AI
 unfold TL.n at *
 have l0 := hR.Len (i := 0) (l := x.a) rfl
 have l1 := hR.Len (i := 1) (l := x.b) rfl
 have l2 := hR.Len (i := 2) (l := x.c) rfl
 rw [hr, om_some, show Aq r 0 = _ from l0, Option.bind_some, show Aq r 1 = _ from l1, Option.bind_some, show Aq r 2 = _ from l2, Option.bind_some, i64s ((x.a.length : Int) + (x.b.length : Int)) (by omega) (by omega), i64s _ (by omega) (by omega)]
 congr 1
end
def tch (n : Nat) (x : TL) (k : Str) : TL :=
 if k ∈ x.a then x.fr0 k else if Sf n < (x.fr2 k).c.length then (x.fr2 k).fr1 ((x.fr2 k).c.getLastD []) else x.fr2 k
def lst (x : TL) : Option Str := match x.b.getLast? with | some k => some k | none => x.c.getLast?
noncomputable def ins (n : Nat) (seed : UInt64) (s : Sk) (x : TL) (k : Str) : TL × List Str :=
 if (x.fr0 k).a.length ≤ Wn n then (x.fr0 k, []) else
  if (x.fr0 k).n ≤ n then ((x.fr0 k).fr1 ((x.fr0 k).a.getLastD []), []) else
   match lst (x.fr0 k) with
   | some o => if sn (wd n) seed s o < sn (wd n) seed s ((x.fr0 k).a.getLastD []) then (((x.fr0 k).drop o).fr1 ((x.fr0 k).a.getLastD []), [o]) else ((x.fr0 k).drop ((x.fr0 k).a.getLastD []), [(x.fr0 k).a.getLastD []])
   | none => ((x.fr0 k).drop ((x.fr0 k).a.getLastD []), [(x.fr0 k).a.getLastD []])
end Go.Proofs.YthngfieikhillaaGreat.Pure
namespace Go.Proofs.YthngfieikhillaaGreat.Pure
open Go Go.Proofs.YthngfieikhillaaGreat.Hw Go.Proofs.YthngfieikhillaaGreat
theorem lastD {l : List Str} (h : l ≠ []) : l = l.dropLast ++ [l.getLastD []] := by
 rw [List.getLastD_eq_getLast?, List.getLast?_eq_some_getLast h, Option.getD_some]
 exact (List.dropLast_concat_getLast h).symm
theorem lastD_mem {l : List Str} (h : l ≠ []) : l.getLastD [] ∈ l := by
 rw [List.getLastD_eq_getLast?, List.getLast?_eq_some_getLast h, Option.getD_some]
 exact List.getLast_mem h
theorem all_nd_a {x : TL} (h : x.all.Nodup) : x.a.Nodup ∧ x.b.Nodup ∧ x.c.Nodup ∧ (∀ k ∈ x.a, k ∉ x.b ∧ k ∉ x.c) ∧ ∀ k ∈ x.b, k ∉ x.c := by
 unfold TL.all at h
 rw [List.nodup_append, List.nodup_append] at h
 obtain ⟨h1, ⟨h2, h3, h4⟩, h5⟩ := h
 refine ⟨h1, h2, h3, fun k hk => ⟨fun q => h5 k hk k (by simp [q]) rfl, fun q => h5 k hk k (by simp [q]) rfl⟩, fun k hk q => h4 k hk k q rfl⟩
section
variable {n : Nat} {seed : UInt64} {t : Ak} {s : Sk} {x : TL}
theorem TR.add (h : TR n seed t s x) {key : Str} (hk : key.length ≤ 100000) : Bw (s.C (wd n) seed) key = some ((ad (wd n) seed s key).C (wd n) seed) := Add_c h.w1 h.w2 h.ok (plc_ok h.w1 h.w2 hk)
theorem TR.adok (h : TR n seed t s x) (key : Str) : (ad (wd n) seed s key).ok (wd n) := put_ok h.w1 h.ok
theorem TR.mk' (h : TR n seed t s x) {key : Str} {r : Ae} {y : TL} (hR : RR 3 (n + 1) r y.L) (b1 : y.b.length + y.c.length + Wn n ≤ n) (b2 : y.a.length ≤ Wn n) (b3 : y.c.length ≤ Sf n) :
  TR n seed ⟨t.most, some ((ad (wd n) seed s key).C (wd n) seed), some r⟩ (ad (wd n) seed s key) y :=
 ⟨h.n1, h.n2, h.ms, rfl, h.adok key, ⟨r, rfl, hR⟩, b1, b2, b3⟩
theorem TR.touch_no (h : TR n seed t s x) {k : Str} (hk : k ∉ x.all) : B7 t k = some (false, t) := by
 unfold B7
 rw [h.Has, Option.bind_some]; simp [hk]
theorem TR.touch (h : TR n seed t s x) {k : Str} (hk : k ∈ x.all) : ∃ t', B7 t k = some (true, t') ∧ TR n seed t' (ad (wd n) seed s k) (tch n x k) ∧ (tch n x k).all.Perm x.all := by
 have h64 := h.kl k hk
 have hnd := h.nd
 obtain ⟨na, nb, nc, d1, d2⟩ := all_nd_a hnd
 obtain ⟨r, hr, hR⟩ := h.rg
 have hn := h.n2
 have hfl : k ∈ x.L.flatten := by rw [fl_all]; exact hk
 have e1 := h.bn
 unfold B7 tch
 rw [h.Has, Option.bind_some, if_neg (by simp [hk]), h.sk, om_some, h.add (by omega), Option.bind_some, hr, om_some]
 by_cases ha : k ∈ x.a
 ·obtain ⟨r', e, hR'⟩ := hR.frontA (by omega) h64 (.inl hfl) (j := 0) (by omega)
  have pm := perm_mem (fr0_all x k) hk hnd
  rw [hR.in_some (i := 0) rfl ha, Option.bind_some, if_pos (by simp), show Aw r 0 k = _ from e, Option.bind_some, if_pos ha]
  refine ⟨_, rfl, h.mk' (y := x.fr0 k) hR' ?_ ?_ ?_, pm⟩
  ·have := rm_le x.b k; have := rm_le x.c k; have := h.bb
   show (TL.rm x.b k).length + (TL.rm x.c k).length + _ ≤ n; omega
  ·show (k :: TL.rm x.a k).length ≤ _
   have := rm_len na ha; have := h.ba; simp; omega
  ·exact Nat.le_trans (rm_le _ _) h.bc
 ·have hin : ∃ i : Nat, Bd r k = some (((i + 1 : Nat) : Int), true) := by
   have : k ∈ x.b ∨ k ∈ x.c := by unfold TL.all at hk; simpa [ha] using hk
   rcases this with q | q
   ·exact ⟨0, hR.in_some (i := 1) rfl q⟩
   ·exact ⟨1, hR.in_some (i := 2) rfl q⟩
  obtain ⟨i, hi⟩ := hin
  obtain ⟨r', e, hR'⟩ := hR.frontA (by omega) h64 (.inl hfl) (j := 2) (by omega)
  have hR2 : RR 3 (n + 1) r' (x.fr2 k).L := hR'
  have pm := perm_mem (fr2_all x k) hk hnd
  have nd2 : (x.fr2 k).all.Nodup := pm.nodup_iff.2 hnd
  have lc := hR2.Len (i := 2) (l := (x.fr2 k).c) rfl
  have b3 : (x.fr2 k).c.length ≤ Sf n + 1 := by
   show (k :: TL.rm x.c k).length ≤ _
   have := rm_le x.c k; have := h.bc; simp; omega
  have b2 : (x.fr2 k).a.length ≤ Wn n := Nat.le_trans (rm_le _ _) h.ba
  have b1 : (x.fr2 k).b.length + (x.fr2 k).c.length = x.b.length + x.c.length := by
   have q1 := pm.length_eq
   have q2 : (TL.rm x.a k).length = x.a.length := by rw [rm_no ha]
   have q3 : (x.fr2 k).a.length = x.a.length := q2
   rw [all_n, all_n] at q1; unfold TL.n at q1; omega
  have hbb := h.bb
  rw [hi, Option.bind_some, if_neg (by simp; omega), show Aw r 2 k = _ from e, Option.bind_some, show Aq r' 2 = _ from lc, Option.bind_some, h.ms, parts_c n hn h.n1, if_neg ha]
  by_cases hc : Sf n < (x.fr2 k).c.length
  ·rw [if_pos (by simpa using hc), if_pos hc]
   have hne : (x.fr2 k).c ≠ [] := by intro q; rw [q] at hc; simp at hc
   have bk := hR2.Back (i := 2) (l := (x.fr2 k).c.dropLast) (x := (x.fr2 k).c.getLastD []) (by show some (x.fr2 k).c = _; rw [← lastD hne])
   have zm := lastD_mem hne
   generalize (x.fr2 k).c.getLastD [] = z at bk zm
   have zall : z ∈ (x.fr2 k).all := by unfold TL.all; simp [zm]
   have z64 : z.length ≤ 64 := hR2.kl z (by rw [fl_all]; exact zall)
   obtain ⟨r3, e3, hR3⟩ := hR2.frontA (by omega) z64 (.inl (by rw [fl_all]; exact zall)) (j := 1) (by omega)
   have pm3 := perm_mem (fr1_all (x.fr2 k) z) zall nd2
   rw [show Ay r' 2 = _ from bk, Option.bind_some, show Aw r' 1 z = _ from e3, Option.bind_some]
   refine ⟨_, rfl, ?_, pm3.trans pm⟩
   have := h.mk' (key := k) (y := (x.fr2 k).fr1 z) hR3 (by
    have q1 := pm3.length_eq
    have q2 : ((x.fr2 k).fr1 z).a.length = (x.fr2 k).a.length := by
     show (TL.rm (x.fr2 k).a z).length = _
     rw [rm_no (fun q => ((all_nd_a nd2).2.2.2.1 z q).2 zm)]
    rw [all_n, all_n] at q1; unfold TL.n at q1; omega) (Nat.le_trans (rm_le _ _) b2) (by
    show (TL.rm (x.fr2 k).c z).length ≤ _
    have := rm_len (all_nd_a nd2).2.2.1 zm; omega)
   rw [h.ms] at this; exact this
  ·rw [if_neg (by simpa using hc), if_neg hc]
   refine ⟨_, rfl, ?_, pm⟩
   have := h.mk' (key := k) (y := x.fr2 k) hR2 (by omega) b2 (by omega)
   rw [h.ms] at this; exact this
end
theorem new_t (n : Nat) (seed : UInt64) (h1 : 1 ≤ n) (h2 : n ≤ 1000) : ∃ t s, Dx (n : Int) seed = some (some t, 0) ∧ TR n seed t s ⟨[], [], []⟩ ∧ s = ⟨List.replicate (wd n) 0, List.replicate (wd n) 0, List.replicate (wd n) 0, List.replicate (wd n) 0, List.replicate (wd n) false, 0⟩ := by
 have w1 : 1 ≤ wd n := by unfold wd; omega
 have w2 : wd n ≤ 4096 := by unfold wd; omega
 obtain ⟨r, e, hR⟩ := new_ok 3 (n + 1) (by omega) (by omega) (by omega)
 have e' : C0 3 (i64 ((n : Int) + 1)) = some (some r, 0) := by
  rw [i64s _ (by omega) (by omega)]; exact e
 unfold Dx
 rw [if_neg (by simp; omega), wide_c n h2, new_c (wd n) seed w1 w2, Option.bind_some, e', Option.bind_some]
 exact ⟨_, _, rfl, ⟨h1, h2, rfl, rfl, zero_ok _ w1, ⟨r, rfl, hR⟩, by have := Wn_le h1; simpa using this, by simp, by simp⟩, rfl⟩
end Go.Proofs.YthngfieikhillaaGreat.Pure
namespace Go.Proofs.YthngfieikhillaaGreat.Pure
open Go Go.Proofs.YthngfieikhillaaGreat.Hw Go.Proofs.YthngfieikhillaaGreat
theorem fr0_new {x : TL} {k : Str} (hk : k ∉ x.all) : x.fr0 k = ⟨k :: x.a, x.b, x.c⟩ := by
 unfold TL.all at hk
 simp only [List.mem_append, not_or] at hk
 unfold TL.fr0 TL.drop
 dsimp only
 rw [rm_no hk.1, rm_no hk.2.1, rm_no hk.2.2]
section
variable {n : Nat} {seed : UInt64} {t : Ak} {s : Sk} {x : TL}
theorem TR.insert_yes (h : TR n seed t s x) {k : Str} (hk : k ∈ x.all) : ∃ t', BU t k = some ([], t') ∧ TR n seed t' (ad (wd n) seed s k) (tch n x k) ∧ (tch n x k).all.Perm x.all := by
 obtain ⟨t', e, h1, h2⟩ := h.touch hk
 have h64 := h.kl k hk
 unfold BU
 rw [if_neg (by simp; omega), e, Option.bind_some, Option.bind_some, if_pos rfl]
 exact ⟨t', rfl, h1, h2⟩
theorem TR.insert_long (h : TR n seed t s x) {k : Str} (hk : 64 < k.length) : BU t k = some ([], t) := by
 unfold BU
 rw [if_pos (by simp; omega), Option.bind_some, if_pos rfl]
def Kept (k : Str) (x : TL) (y : TL × List Str) : Prop :=
 (y.2 = [] ∧ y.1.all.Perm (k :: x.all)) ∨ ∃ o, y.2 = [o] ∧ o ∈ k :: x.all ∧ y.1.all.Perm (TL.rm (k :: x.all) o)
theorem lst_mem {y : TL} {o : Str} (h : lst y = some o) : o ∈ y.b ∨ (y.b = [] ∧ o ∈ y.c) := by
 unfold lst at h
 cases e : y.b.getLast? with
 | some k => rw [e] at h; cases h; exact .inl (List.mem_of_getLast? e)
 | none => rw [e] at h; exact .inr ⟨List.getLast?_eq_none_iff.1 e, List.mem_of_getLast? h⟩
theorem last_c {m : Nat} {r : Ae} {y : TL} (hR : RR 3 m r y.L) (mo : Int) (S : Option Aj) : C3 ⟨mo, S, some r⟩ = some (match lst y with | some o => (o, true) | none => ([], false)) := by
 unfold C3 lst
 rw [om_some]
 cases e : y.b.getLast? with
 | some k =>
  obtain ⟨l, hl⟩ := List.getLast?_eq_some_iff.1 e
  have bk := hR.Back (i := 1) (l := l) (x := k) (by show some y.b = _; rw [hl])
  rw [show Ay r 1 = _ from bk, Option.bind_some, if_pos rfl]
 | none =>
  have eb := List.getLast?_eq_none_iff.1 e
  have bk := hR.Back0 (i := 1) (by show some y.b = _; rw [eb])
  rw [show Ay r 1 = _ from bk, Option.bind_some, if_neg (by simp)]
  cases e2 : y.c.getLast? with
  | some k =>
   obtain ⟨l, hl⟩ := List.getLast?_eq_some_iff.1 e2
   have bk := hR.Back (i := 2) (l := l) (x := k) (by show some y.c = _; rw [hl])
   rw [show Ay r 2 = _ from bk, Option.bind_some]
  | none =>
   have eb := List.getLast?_eq_none_iff.1 e2
   have bk := hR.Back0 (i := 2) (by show some y.c = _; rw [eb])
   rw [show Ay r 2 = _ from bk, Option.bind_some]
theorem TR.insert_no (h : TR n seed t s x) {k : Str} (hk : k ∉ x.all) (h64 : k.length ≤ 64) :
  ∃ t', BU t k = some ((ins n seed (ad (wd n) seed s k) x k).2, t') ∧ TR n seed t' (ad (wd n) seed s k) (ins n seed (ad (wd n) seed s k) x k).1 ∧ Kept k x (ins n seed (ad (wd n) seed s k) x k) := by
 have hnd := h.nd
 obtain ⟨r, hr, hR⟩ := h.rg
 have hn := h.n2
 have hbn := h.bn
 have hbb := h.bb
 have hba := h.ba
 have hbc := h.bc
 have ok' := h.adok k
 obtain ⟨r1, e1, hR1⟩ := hR.frontA (by omega) h64 (.inr (by rw [fl_all, all_n]; omega)) (j := 0) (by omega)
 have hR1 : RR 3 (n + 1) r1 (x.fr0 k).L := hR1
 have ey := fr0_new hk
 have hal : (x.fr0 k).all = k :: x.all := by rw [ey]; rfl
 have hyn : (x.fr0 k).n = x.n + 1 := by rw [← all_n, hal, List.length_cons, all_n]
 have la := hR1.Len (i := 0) (l := (x.fr0 k).a) rfl
 have hya : (x.fr0 k).a.length = x.a.length + 1 := by rw [ey]; rfl
 have hyb : (x.fr0 k).b.length = x.b.length := by rw [ey]
 have hyc : (x.fr0 k).c.length = x.c.length := by rw [ey]
 have nd1 : (x.fr0 k).all.Nodup := by rw [hal]; exact List.nodup_cons.2 ⟨hk, hnd⟩
 unfold BU
 rw [if_neg (by simp; omega), h.touch_no hk, Option.bind_some, Option.bind_some, if_neg (by simp)]
 dsimp only
 rw [h.sk, om_some, h.add (by omega), Option.bind_some, hr, om_some, show Aw r 0 k = _ from e1, Option.bind_some]
 dsimp only
 rw [show Aq r1 0 = _ from la, Option.bind_some, h.ms, parts_c n hn h.n1]
 dsimp only
 unfold ins
 generalize ad (wd n) seed s k = s' at ok' ⊢
 generalize x.fr0 k = y at *
 by_cases c1 : y.a.length ≤ Wn n
 ·rw [if_pos (by simpa using c1), if_pos c1]
  refine ⟨_, rfl, ⟨h.n1, hn, rfl, rfl, ok', ⟨r1, rfl, hR1⟩, ?_, c1, ?_⟩, .inl ⟨rfl, by rw [hal]⟩⟩
  ·dsimp only; omega
  ·dsimp only; omega
 ·rw [if_neg (by simpa using c1), if_neg c1]
  have hne : y.a ≠ [] := by intro q; rw [q] at c1; simp at c1
  have bk := hR1.Back (i := 0) (l := y.a.dropLast) (x := y.a.getLastD []) (by show some y.a = _; rw [← lastD hne])
  have om := lastD_mem hne
  generalize y.a.getLastD [] = one at bk om ⊢
  obtain ⟨d1, d2, d3, d4, d5⟩ := all_nd_a nd1
  have oall : one ∈ y.all := by unfold TL.all; simp [om]
  have o64 : one.length ≤ 64 := hR1.kl one (by rw [fl_all]; exact oall)
  have ra := rm_len d1 om
  have LEN : AI ⟨(n : Int), some (s'.C (wd n) seed), some r1⟩ = some (y.n : Int) := by
   unfold AI
   have l1 := hR1.Len (i := 1) (l := y.b) rfl
   have l2 := hR1.Len (i := 2) (l := y.c) rfl
   unfold TL.n at *
   rw [om_some, show Aq r1 0 = _ from la, Option.bind_some, show Aq r1 1 = _ from l1, Option.bind_some, show Aq r1 2 = _ from l2, Option.bind_some, i64s ((y.a.length : Int) + (y.b.length : Int)) (by omega) (by omega), i64s _ (by omega) (by omega)]
   congr 1
  rw [show Ay r1 0 = _ from bk, Option.bind_some, LEN, Option.bind_some]
  by_cases c2 : y.n ≤ n
  ·obtain ⟨r2, e2, hR2⟩ := hR1.frontA (by omega) o64 (.inl (by rw [fl_all]; exact oall)) (j := 1) (by omega)
   have pm := perm_mem (fr1_all y one) oall nd1
   rw [if_pos (by simpa using c2), if_pos c2, show Aw r1 1 one = _ from e2, Option.bind_some]
   refine ⟨_, rfl, ⟨h.n1, hn, rfl, rfl, ok', ⟨r2, rfl, hR2⟩, ?_, ?_, ?_⟩, .inl ⟨rfl, by rw [← hal]; exact pm⟩⟩
   ·have q1 : (y.fr1 one).b.length = y.b.length + 1 := by
     show (one :: TL.rm y.b one).length = _
     rw [rm_no (d4 one om).1]; rfl
    have q2 : (y.fr1 one).c.length = y.c.length := by
     show (TL.rm y.c one).length = _
     rw [rm_no (d4 one om).2]
    dsimp only
    unfold TL.n at c2
    omega
   ·show (TL.rm y.a one).length ≤ _; omega
   ·show (TL.rm y.c one).length ≤ _; have := rm_le y.c one; omega
  ·have LS := last_c hR1 (n : Int) (some (s'.C (wd n) seed))
   rw [if_neg (by simpa using c2), if_neg c2, LS, Option.bind_some]
   have DROP : ∃ t', ((AK r1 one).bind fun r82 => some ([one], (⟨(n : Int), (some (s'.C (wd n) seed)), (some r82.2)⟩ : Ak))) = some ([one], t') ∧ TR n seed t' s' (y.drop one) ∧ (y.drop one).all.Perm (TL.rm (k :: x.all) one) := by
    obtain ⟨r2, e2, hR2⟩ := hR1.dropA (by omega) (by omega) one
    rw [e2, Option.bind_some]
    refine ⟨_, rfl, ⟨h.n1, hn, rfl, rfl, ok', ⟨r2, rfl, hR2⟩, ?_, ?_, ?_⟩, by rw [drop_all, hal]⟩
    ·have := rm_le y.b one; have := rm_le y.c one
     show (TL.rm y.b one).length + (TL.rm y.c one).length + _ ≤ n; omega
    ·show (TL.rm y.a one).length ≤ _; omega
    ·show (TL.rm y.c one).length ≤ _; have := rm_le y.c one; omega
   obtain ⟨tD, eD, hD, pD⟩ := DROP
   cases eL : lst y with
   | none =>
    dsimp only
    rw [if_neg (by simp), Option.bind_some, if_neg (by simp)]
    exact ⟨tD, eD, hD, .inr ⟨one, rfl, by rw [← hal]; exact oall, pD⟩⟩
   | some o =>
    have omem := lst_mem eL
    have oin : o ∈ y.all := by unfold TL.all; rcases omem with q | q <;> simp [q]
    have ol : o.length ≤ 64 := hR1.kl o (by rw [fl_all]; exact oin)
    have hw1 := h.w1
    have hw2 := h.w2
    have sn1 : Bz (s'.C (wd n) seed) one = some (sn (wd n) seed s' one : Int) := Seen_c hw1 hw2 ok' (plc_ok hw1 hw2 (by omega))
    have sn2 : Bz (s'.C (wd n) seed) o = some (sn (wd n) seed s' o : Int) := Seen_c hw1 hw2 ok' (plc_ok hw1 hw2 (by omega))
    dsimp only
    rw [if_pos rfl, sn1, Option.bind_some, sn2, Option.bind_some, Option.bind_some]
    by_cases c3 : sn (wd n) seed s' o < sn (wd n) seed s' one
    ·rw [if_pos (by simpa using c3), if_pos c3]
     obtain ⟨r2, e2, hR2⟩ := hR1.dropA (by omega) (by omega) o
     have hR2 : RR 3 (n + 1) r2 (y.drop o).L := hR2
     have hoo : one ≠ o := by
      rintro rfl
      rcases omem with q | q
      ·exact (d4 one om).1 q
      ·exact (d4 one om).2 q.2
     have om2 : one ∈ (y.drop o).a := rm_mem.2 ⟨om, hoo⟩
     have oall2 : one ∈ (y.drop o).all := by unfold TL.all; simp [om2]
     have nd2 : (y.drop o).all.Nodup := by rw [drop_all]; exact List.filter_sublist.nodup nd1
     obtain ⟨r3, e3, hR3⟩ := hR2.frontA (by omega) o64 (.inl (by rw [fl_all]; exact oall2)) (j := 1) (by omega)
     have pm := perm_mem (fr1_all (y.drop o) one) oall2 nd2
     rw [e2, Option.bind_some, show Aw r2 1 one = _ from e3, Option.bind_some]
     refine ⟨_, rfl, ⟨h.n1, hn, rfl, rfl, ok', ⟨r3, rfl, hR3⟩, ?_, ?_, ?_⟩, .inr ⟨o, rfl, by rw [← hal]; exact oin, ?_⟩⟩
     ·have g1 : ((y.drop o).fr1 one).b.length ≤ (TL.rm y.b o).length + 1 := by
       show (one :: TL.rm (TL.rm y.b o) one).length ≤ _
       have := rm_le (TL.rm y.b o) one; simp; omega
      have g2 : ((y.drop o).fr1 one).c.length ≤ (TL.rm y.c o).length := rm_le _ _
      have g3 : (TL.rm y.b o).length + (TL.rm y.c o).length + 1 ≤ y.b.length + y.c.length := by
       have := rm_le y.b o; have := rm_le y.c o
       rcases omem with q | q
       ·have := rm_len d2 q; omega
       ·have := rm_len d3 q.2; omega
      dsimp only
      omega
     ·show (TL.rm (TL.rm y.a o) one).length ≤ _
      have : TL.rm y.a o = y.a := rm_no (fun q => by rcases omem with z | z; exact (d4 o q).1 z; exact (d4 o q).2 z.2)
      rw [this]; omega
     ·show (TL.rm (TL.rm y.c o) one).length ≤ _
      have := rm_le (TL.rm y.c o) one; have := rm_le y.c o; omega
     ·rw [← hal, ← drop_all]; exact pm
    ·rw [if_neg (by simpa using c3), if_neg c3]
     exact ⟨tD, eD, hD, .inr ⟨one, rfl, by rw [← hal]; exact oall, pD⟩⟩
end
end Go.Proofs.YthngfieikhillaaGreat.Pure
namespace Go.Proofs.YthngfieikhillaaGreat.Pure
open Go Go.Proofs.YthngfieikhillaaGreat.Hw Go.Proofs.YthngfieikhillaaGreat
section
variable {n : Nat} {seed : UInt64} {t : Ak} {s : Sk} {x : TL}
theorem TR.gone (h : TR n seed t s x) {r : Ae} {k : Str} (hR : RR 3 (n + 1) r (x.drop k).L) : TR n seed ⟨t.most, t.s, some r⟩ s (x.drop k) := by
 refine ⟨h.n1, h.n2, h.ms, h.sk, h.ok, ⟨r, rfl, hR⟩, ?_, ?_, ?_⟩
 ·have := rm_le x.b k; have := rm_le x.c k; have := h.bb
  show (TL.rm x.b k).length + (TL.rm x.c k).length + _ ≤ n; omega
 ·exact Nat.le_trans (rm_le _ _) h.ba
 ·exact Nat.le_trans (rm_le _ _) h.bc
theorem TR.Remove (h : TR n seed t s x) (k : Str) : ∃ t', CQ t k = some (decide (k ∈ x.all), t') ∧ TR n seed t' s (x.drop k) := by
 obtain ⟨r, hr, hR⟩ := h.rg
 have := h.n2
 obtain ⟨r', e, hR'⟩ := hR.dropA (by omega) (by omega) k
 unfold CQ
 rw [hr, om_some, e, Option.bind_some]
 refine ⟨_, by rw [fl_all], ?_⟩
 exact h.gone (rmL x k ▸ hR')
def evk (x : TL) : Option Str := match x.b.getLast? with | some k => some k | none => match x.a.getLast? with | some k => some k | none => x.c.getLast?
theorem evk_none {x : TL} (h : evk x = none) : x = ⟨[], [], []⟩ := by
 obtain ⟨a, b, c⟩ := x
 unfold evk at h
 dsimp only at h
 cases e : b.getLast? with
 | some k => rw [e] at h; cases h
 | none =>
  rw [e] at h; dsimp only at h
  cases e2 : a.getLast? with
  | some k => rw [e2] at h; cases h
  | none =>
   rw [e2] at h; dsimp only at h
   rw [List.getLast?_eq_none_iff.1 e, List.getLast?_eq_none_iff.1 e2, List.getLast?_eq_none_iff.1 h]
theorem RR.BackA {m : Nat} {r : Ae} {L : List (List Str)} {k : Nat} (h : RR k m r L) {i : Nat} {l : List Str} (hl : L[i]? = some l) : Ay r (i : Int) = some (match l.getLast? with | some k => (k, true) | none => ([], false)) := by
 cases e : l.getLast? with
 | some k =>
  obtain ⟨q, rfl⟩ := List.getLast?_eq_some_iff.1 e
  exact h.Back hl
 | none =>
  rw [List.getLast?_eq_none_iff.1 e] at hl
  exact h.Back0 hl
theorem TR.Evict (h : TR n seed t s x) : ∃ t' x', CZ t = some ((match evk x with | some k => (k, true, t') | none => ([], false, t'))) ∧ TR n seed t' s x' ∧ x' = (match evk x with | some k => x.drop k | none => x) := by
 obtain ⟨r, hr, hR⟩ := h.rg
 have hn := h.n2
 have b0 := hR.BackA (i := 0) (l := x.a) rfl
 have b1 := hR.BackA (i := 1) (l := x.b) rfl
 have b2 := hR.BackA (i := 2) (l := x.c) rfl
 unfold CZ
 rw [h.Len, Option.bind_some]
 by_cases hz : x.n = 0
 ·have ha : x.a = [] := List.length_eq_zero_iff.1 (by unfold TL.n at hz; omega)
  have hb : x.b = [] := List.length_eq_zero_iff.1 (by unfold TL.n at hz; omega)
  have hc : x.c = [] := List.length_eq_zero_iff.1 (by unfold TL.n at hz; omega)
  rw [hz, if_pos (by rfl)]
  unfold evk
  rw [ha, hb, hc]
  exact ⟨t, x, rfl, h, rfl⟩
 ·rw [if_neg (by simpa using hz), hr, om_some, show Ay r 1 = _ from b1, Option.bind_some, show Ay r 0 = _ from b0, show Ay r 2 = _ from b2]
  have D : ∀ k, ∃ t', ((AK r k).bind fun r28 => some (k, true, (⟨t.most, t.s, (some r28.2)⟩ : Ak))) = some (k, true, t') ∧ TR n seed t' s (x.drop k) := fun k => by
   obtain ⟨r', e, hR'⟩ := hR.dropA (by omega) (by omega) k
   rw [e, Option.bind_some]
   exact ⟨_, rfl, h.gone (rmL x k ▸ hR')⟩
  unfold evk
  cases e1 : x.b.getLast? with
  | some k =>
   obtain ⟨t', e, q⟩ := D k
   exact ⟨t', _, e, q, rfl⟩
  | none =>
   cases e2 : x.a.getLast? with
   | some k =>
    obtain ⟨t', e, q⟩ := D k
    exact ⟨t', _, e, q, rfl⟩
   | none =>
    cases e3 : x.c.getLast? with
    | some k =>
     obtain ⟨t', e, q⟩ := D k
     exact ⟨t', _, e, q, rfl⟩
    | none =>
     exfalso; apply hz
     rw [show x = ⟨[], [], []⟩ from evk_none (by unfold evk; rw [e1]; dsimp only; rw [e2]; exact e3)]; rfl
end
end Go.Proofs.YthngfieikhillaaGreat.Pure
namespace Go.Proofs.YthngfieikhillaaGreat.Pure
open Go Go.Proofs.YthngfieikhillaaGreat.Hw Go.Proofs.YthngfieikhillaaGreat
theorem keys_l (x : Ae) (i : Nat) : ∀ (B : List Nat) (f a : Nat), B.length < f → Lk (nxS x.slots) (pvS x.slots) (a :: (B ++ [i])) → (∀ p ∈ B, p ≠ i ∧ p < x.slots.length) →
  BR (i : Int) x f (nxS x.slots a) = some (B.map (ky x.slots)) := by
 intro B
 induction B with
 | nil =>
  intro f a hf hl _
  obtain ⟨f, rfl⟩ : ∃ g, f = g + 1 := ⟨f - 1, by simp at hf; omega⟩
  obtain ⟨h1, _⟩ := hl
  rw [h1]
  unfold BR
  rw [if_neg (by simp)]; rfl
 | cons p B ih =>
  intro f a hf hl hp
  obtain ⟨f, rfl⟩ : ∃ g, f = g + 1 := ⟨f - 1, by simp at hf; omega⟩
  obtain ⟨h1, _, h3⟩ := hl
  obtain ⟨q1, q2⟩ := hp p (by simp)
  rw [h1]
  unfold BR
  rw [if_pos (by simp; omega), giN q2, Option.bind_some]
  have := ih f p (by simpa using hf) h3 (fun p hp' => hp p (by simp [hp']))
  rw [show (x.slots.getD p default).next = nxS x.slots p from rfl, this, Option.bind_some]
  rfl
theorem RR.Keys {k m : Nat} {r : Ae} {L : List (List Str)} (h : RR k m r L) {i : Nat} {l : List Str} (hl : L[i]? = some l) : CI (some r) (i : Int) = some l := by
 have hi : i < k := by have := h.len; obtain ⟨q, _⟩ := List.getElem?_eq_some_iff.1 hl; omega
 have his := h.is i
 obtain ⟨P, f, h, rfl⟩ := h
 obtain ⟨Q, hQ, rfl⟩ := keys_get hl
 have hlen := h.co.len
 have hrg : ∀ p ∈ Q, p ≠ i ∧ p < r.slots.length := fun p hp => by
  have := h.co.rg p (mem_fl hQ hp); omega
 have hQl : Q.length ≤ P.flatten.length := by
  obtain ⟨U, V, e, _, _⟩ := dec hQ
  rw [e]; simp; omega
 have hct := h.ct
 unfold CI
 rw [om_some, his, if_neg (by simp [hi]), giN (by omega), Option.bind_some]
 have := keys_l r i Q (DH (some r)) i (by show Q.length < r.slots.length + 1; omega) (h.co.lk i Q hQ) hrg
 rw [show (r.slots.getD i default).next = nxS r.slots i from rfl, this, Option.bind_some]
end Go.Proofs.YthngfieikhillaaGreat.Pure
namespace Go.Proofs.YthngfieikhillaaGreat.Pure
open Go Go.Proofs.YthngfieikhillaaGreat.Hw
theorem giC {α : Type} (l : List α) (k : Nat) : gi l (k : Int) = l[k]? := by unfold gi; simp
theorem i64n (k : Nat) (h : k ≤ 1000000) : i64 ((k : Int) + 1) = ((k + 1 : Nat) : Int) := by rw [i64s _ (by omega) (by omega)]; omega
section
variable {L : List (List Str)} {p : Int} {key : Str}
theorem rin1 {i : Nat} {l : List Str} (hl : L[i]? = some l) (hb : l.length ≤ 1000) : ∀ (f k : Nat), l.length - k < f → k ≤ l.length →
  BO ⟨L, p⟩ key (i : Int) f (k : Int) = if key ∈ l.drop k then some (Sum.inr (Sum.inr (Sum.inr ((i : Int), true)))) else some (Sum.inl ())
 | 0, k, h, _ => by omega
 | f + 1, k, h, hk => by
  unfold BO
  rw [show gi L (i : Int) = some l by rw [giC]; exact hl, Option.bind_some]
  rcases Nat.lt_or_ge k l.length with h1 | h1
  ·rw [if_pos (by simp; exact h1), giC, List.getElem?_eq_getElem h1, Option.bind_some, i64n k (by omega), rin1 hl hb f (k + 1) (by omega) (by omega), List.drop_eq_getElem_cons h1]
   by_cases h2 : l[k] = key
   ·rw [if_pos (by simpa using h2), if_pos (by simp [h2])]
   ·rw [if_neg (by simpa using h2)]
    by_cases h3 : key ∈ l.drop (k + 1)
    ·rw [if_pos h3, if_pos (List.mem_cons_of_mem _ h3)]
    ·rw [if_neg h3, if_neg (fun h => (List.mem_cons.1 h).elim (fun e => h2 e.symm) h3)]
  ·rw [if_neg (by simp; exact_mod_cast h1), List.drop_eq_nil_of_le h1, if_neg (by simp)]
def inK : List (List Str) → Str → Option Nat
 | [], _ => none
 | l :: L, k => if k ∈ l then some 0 else (inK L k).map (· + 1)
theorem inK_some : ∀ {L : List (List Str)} {k : Str}, k ∈ L.flatten → ∃ i l, inK L k = some i ∧ L[i]? = some l ∧ k ∈ l
 | [], _, h => by simp at h
 | l :: L, k, h => by
  rw [inK]
  by_cases h1 : k ∈ l
  ·exact ⟨0, l, by rw [if_pos h1], rfl, h1⟩
  ·have h2 : k ∈ L.flatten := by simpa [h1] using h
   obtain ⟨i, m, e, h3, h4⟩ := inK_some h2
   exact ⟨i + 1, m, by rw [if_neg h1, e]; rfl, h3, h4⟩
theorem rin0 (hb : ∀ l ∈ L, l.length ≤ 1000) (hL : L.length ≤ 1000) : ∀ (f i : Nat), L.length - i < f → i ≤ L.length →
  Bu ⟨L, p⟩ key f (i : Int) = match inK (L.drop i) key with
   | some j => some (Sum.inr (((i + j : Nat) : Int), true))
   | none => some (Sum.inl ())
 | 0, i, h, _ => by omega
 | f + 1, i, h, hk => by
  unfold Bu
  rcases Nat.lt_or_ge i L.length with h1 | h1
  ·have e := rin1 (p := p) (key := key) (List.getElem?_eq_getElem h1) (hb _ (List.getElem_mem h1)) 1100 0 (by have := hb _ (List.getElem_mem h1); omega) (by omega)
   rw [List.drop_zero, show ((0 : Nat) : Int) = 0 from rfl] at e
   rw [if_pos (by simp; exact h1), e, List.drop_eq_getElem_cons h1, inK]
   by_cases h2 : key ∈ L[i]
   ·rw [if_pos h2, if_pos h2]; rfl
   ·rw [if_neg h2, if_neg h2]
    show (Bu ⟨L, p⟩ key f (i64 ((i : Int) + 1))) = _
    rw [i64n i (by omega), rin0 hb hL f (i + 1) (by omega) (by omega)]
    cases inK (L.drop (i + 1)) key with
    | none => rfl
    | some j => simp only [Option.map_some]; rw [show i + 1 + j = i + (j + 1) by omega]
  ·rw [if_neg (by simp; exact_mod_cast h1), List.drop_eq_nil_of_le h1]; rfl
theorem rin (hb : ∀ l ∈ L, l.length ≤ 1000) (hL : L.length ≤ 1000) : AG ⟨L, p⟩ key = match inK L key with
   | some j => some ((j : Int), true)
   | none => some (0, false) := by
 unfold AG
 rw [show (((⟨L, p⟩ : Ac).L.length : Int) - 0).toNat = L.length by simp]
 have := rin0 (p := p) (key := key) hb hL (L.length + 1) 0 (by omega) (by omega)
 rw [show ((0 : Nat) : Int) = 0 from rfl, List.drop_zero] at this
 rw [this]
 cases inK L key with
 | none => rfl
 | some j => simp
theorem rmany0 (hs : L.flatten.length ≤ 1000000) (hL : L.length ≤ 1000) : ∀ (f i n : Nat), L.length - i < f → i ≤ L.length → n + (L.drop i).flatten.length = L.flatten.length →
  BA ⟨L, p⟩ f (n : Int) (i : Int) = some (L.flatten.length : Int)
 | 0, i, n, h, _, _ => by omega
 | f + 1, i, n, h, hk, he => by
  unfold BA
  rcases Nat.lt_or_ge i L.length with h1 | h1
  ·rw [if_pos (by simp; exact h1), show gi L (i : Int) = some L[i] by rw [giC]; exact List.getElem?_eq_getElem h1, Option.bind_some, i64n i (by omega)]
   rw [List.drop_eq_getElem_cons h1, List.flatten_cons, List.length_append] at he
   rw [i64s _ (by omega) (by omega), show ((n : Int) + (L[i].length : Int)) = ((n + L[i].length : Nat) : Int) by simp]
   exact rmany0 hs hL f (i + 1) _ (by omega) (by omega) (by omega)
  ·rw [if_neg (by simp; exact_mod_cast h1)]
   rw [List.drop_eq_nil_of_le h1] at he
   simp at he
   rw [he]; simp
theorem rmany (hs : L.flatten.length ≤ 1000000) (hL : L.length ≤ 1000) : Bm ⟨L, p⟩ = some (L.flatten.length : Int) := by
 unfold Bm
 have := rmany0 (p := p) hs hL (L.length + 1) 0 0 (by omega) (by omega) (by simp)
 rw [show (((⟨L, p⟩ : Ac).L.length : Int) - 0).toNat = L.length by simp, show (0 : Int) = ((0 : Nat) : Int) from rfl, this]; rfl
theorem rdrop1 {i : Nat} {l : List Str} (hl : L[i]? = some l) (hb : l.length ≤ 1000) : ∀ (f k : Nat) (o : List Str), l.length - k < f → k ≤ l.length → o.length ≤ k →
  BB ⟨L, p⟩ key (i : Int) f o (k : Int) = some (o ++ (l.drop k).filter fun x => !(x == key))
 | 0, k, o, h, _, _ => by omega
 | f + 1, k, o, h, hk, ho => by
  unfold BB
  rw [show gi L (i : Int) = some l by rw [giC]; exact hl, Option.bind_some]
  rcases Nat.lt_or_ge k l.length with h1 | h1
  ·rw [if_pos (by simp; exact h1), giC, List.getElem?_eq_getElem h1, Option.bind_some, i64n k (by omega), List.drop_eq_getElem_cons h1]
   by_cases h2 : l[k] = key
   ·rw [if_neg (by simp [h2]), Option.bind_some, rdrop1 hl hb f (k + 1) o (by omega) (by omega) (by omega), List.filter_cons_of_neg (by simp [h2])]
   ·rw [if_pos (by simpa using h2), apd_i 16 o [l[k]] (by omega) (by simp; omega), Option.bind_some, Option.bind_some, rdrop1 hl hb f (k + 1) _ (by omega) (by omega) (by simp; omega), List.filter_cons_of_pos (by simp [h2])]; simp
  ·rw [if_neg (by simp; exact_mod_cast h1), List.drop_eq_nil_of_le h1]; simp
theorem rdrop0 (hb : ∀ l ∈ L, l.length ≤ 1000) (hL : L.length ≤ 1000) : ∀ (f i : Nat) (c : List (List Str)), L.length - i < f → i ≤ L.length → c.length = L.length →
  BC ⟨L, p⟩ key f (i : Int) c = some (c.take i ++ rmK (L.drop i) key)
 | 0, i, c, h, _, _ => by omega
 | f + 1, i, c, h, hk, hc => by
  unfold BC
  rcases Nat.lt_or_ge i L.length with h1 | h1
  ·have h2 : i < c.length := by omega
   rw [if_pos (by simp; exact h1), show (0 : Int) = ((0 : Nat) : Int) from rfl, rdrop1 (List.getElem?_eq_getElem h1) (hb _ (List.getElem_mem h1)) 1100 0 [] (by have := hb _ (List.getElem_mem h1); omega) (by omega) (by simp), List.drop_zero, Option.bind_some,
    show gi c (i : Int) = some c[i] by rw [giC]; exact List.getElem?_eq_getElem h2, Option.bind_some, Option.bind_some, i64n i (by omega), lsC,
    rdrop0 hb hL f (i + 1) _ (by omega) (by omega) (by simpa using hc), List.drop_eq_getElem_cons h1]
   simp only [rmK, List.map_cons, List.nil_append]
   rw [List.take_set, List.take_add_one, List.getElem?_eq_getElem h2]
   rw [List.set_append_right _ _ (by simp; omega)]
   simp [Nat.min_eq_left (Nat.le_of_lt h2)]
  ·rw [if_neg (by simp; exact_mod_cast h1), List.drop_eq_nil_of_le h1]; simp [rmK]; exact (List.take_of_length_le (by omega)).symm
theorem rnew (k : Nat) (hk : k ≤ 5000) : Bf (k : Int) p = some ⟨List.replicate k [], p⟩ := by
 unfold Bf; rw [mks_i 24 k _ (by omega) hk]; rfl
theorem rdrop (hb : ∀ l ∈ L, l.length ≤ 1000) (hL : L.length ≤ 1000) : Az ⟨L, p⟩ key = some ⟨rmK L key, p⟩ := by
 unfold Az
 rw [show Bf _ _ = _ from rnew L.length (by omega), Option.bind_some]
 have := rdrop0 (p := p) (key := key) hb hL (L.length + 1) 0 (List.replicate L.length []) (by omega) (by omega) (by simp)
 rw [show (((⟨L, p⟩ : Ac).L.length : Int) - 0).toNat = L.length by simp, show (0 : Int) = ((0 : Nat) : Int) from rfl, this]; simp
end
end Go.Proofs.YthngfieikhillaaGreat.Pure
namespace Go.Proofs.YthngfieikhillaaGreat.Pure
open Go Go.Proofs.YthngfieikhillaaGreat.Hw
section
variable {L : List (List Str)} {p : Int} {key : Str}
theorem rfrontT (hb : ∀ l ∈ L, l.length ≤ 1000) (hL : L.length ≤ 1000) {i : Nat} (hi : i < L.length) :
  ((Az ⟨L, p⟩ key).bind fun r10 => (gi r10.L (i : Int)).bind fun y16 => (apd 16 [key] y16).bind fun l20 => some ((⟨ls r10.L (i : Int) l20, r10.Places⟩ : Ac), true)) = some (⟨frK L i key, p⟩, true) := by
 rw [rdrop hb hL, Option.bind_some]
 have h1 : i < (rmK L key).length := by simpa [rmK] using hi
 dsimp only
 rw [giC, List.getElem?_eq_getElem h1, Option.bind_some]
 have h2 : ((rmK L key)[i]).length ≤ 1000 := by
  have : (rmK L key)[i] = (L[i]).filter fun x => !(x == key) := by simp [rmK]
  rw [this]
  exact Nat.le_trans (List.length_filter_le _ _) (hb _ (List.getElem_mem hi))
 rw [apd_i 16 [key] _ (by omega) (by simp; omega), Option.bind_some, lsC]
 unfold frK
 rw [List.getD_eq_getElem?_getD, List.getElem?_eq_getElem h1]
 rfl
theorem rfront (hb : ∀ l ∈ L, l.length ≤ 1000) (hL : L.length ≤ 1000) (hs : L.flatten.length ≤ 1000000) {i : Nat} (hi : i < L.length) (h64 : key.length ≤ 64) (hr : key ∈ L.flatten ∨ (L.flatten.length : Int) < p) :
  AP ⟨L, p⟩ (i : Int) key = some (⟨frK L i key, p⟩, true) := by
 unfold AP
 rw [rin hb hL]
 have e1 : ((decide ((i : Int) < 0) || decide ((L.length : Int) ≤ (i : Int))) || decide (64 < (key.length : Int))) = false := by simp; omega
 cases h : inK L key with
 | some j =>
  dsimp only
  rw [Option.bind_some, e1, if_neg (by decide), if_pos rfl, Option.bind_some, Option.bind_some, if_neg (by decide)]
  exact rfrontT hb hL hi
 | none =>
  have hk : key ∉ L.flatten := fun hk => by obtain ⟨i, l, e, _⟩ := inK_some hk; rw [e] at h; cases h
  have hr : (L.flatten.length : Int) < p := hr.resolve_left hk
  dsimp only
  rw [Option.bind_some, e1, if_neg (by decide), if_neg (by decide), rmany hs hL, Option.bind_some, Option.bind_some]
  rw [show decide (p ≤ (L.flatten.length : Int)) = false from decide_eq_false (by omega), Option.bind_some, if_neg (by decide)]
  exact rfrontT hb hL hi
theorem rback {i : Nat} {l : List Str} (hl : L[i]? = some l) (hb : l.length ≤ 1000) : Ar ⟨L, p⟩ (i : Int) = some (match l.getLast? with | some k => (k, true) | none => ([], false)) := by
 have hi : i < L.length := by rcases Nat.lt_or_ge i L.length with h | h; exact h; rw [List.getElem?_eq_none h] at hl; cases hl
 unfold Ar
 dsimp only
 rw [show (decide ((i : Int) < 0) || decide ((L.length : Int) ≤ (i : Int))) = false by simp; omega, if_neg (by decide), giC, hl, Option.bind_some, Option.bind_some, Option.bind_some]
 cases e : l.getLast? with
 | none => rw [List.getLast?_eq_none_iff.1 e]; rfl
 | some k =>
  obtain ⟨q, rfl⟩ := List.getLast?_eq_some_iff.1 e
  rw [List.length_append, List.length_singleton] at hb
  rw [if_neg (by simp; omega), i64s _ (by rw [List.length_append]; omega) (by rw [List.length_append, List.length_singleton]; omega), show (((q ++ [k]).length : Int) - 1) = (q.length : Int) by simp, giC]
  simp
end
abbrev TD (n : Nat) (seed : UInt64) (s : Sk) (x : TL) : Ad := ⟨(n : Int), s.M (wd n) seed, ⟨x.L, ((n + 1 : Nat) : Int)⟩⟩
section
variable {n : Nat} {seed : UInt64} {t : Ak} {s : Sk} {x : TL} {k : Str}
theorem TL.hb (hn : n ≤ 900) (hx : x.n ≤ n + 1) : ∀ l ∈ x.L, l.length ≤ 1000 := by
 intro l hl
 have : x.n = x.a.length + x.b.length + x.c.length := rfl
 simp only [TL.L, List.mem_cons, List.not_mem_nil, or_false] at hl
 rcases hl with rfl | rfl | rfl <;> omega
theorem TL.fl (hn : n ≤ 900) (hx : x.n ≤ n + 1) : x.L.flatten.length ≤ 1000000 := by rw [fl_all, all_n]; omega
theorem fr_n2 (hnd : x.all.Nodup) (hk : k ∈ x.all) : (x.fr2 k).n = x.n := by rw [← all_n, ← all_n]; exact (perm_mem (fr2_all x k) hk hnd).length_eq
theorem dIn (hn : n ≤ 900) (hx : x.n ≤ n + 1) (p : Int) : AG ⟨x.L, p⟩ k = some (if k ∈ x.a then (0, true) else if k ∈ x.b then (1, true) else if k ∈ x.c then (2, true) else (0, false)) := by
 rw [rin (TL.hb hn hx) (by simp)]
 simp only [inK]
 by_cases h1 : k ∈ x.a
 ·simp [h1]
 ·by_cases h2 : k ∈ x.b
  ·simp [h1, h2]
  ·by_cases h3 : k ∈ x.c
   ·simp [h1, h2, h3]
   ·simp [h1, h2, h3]
theorem all_m : k ∈ x.all ↔ k ∈ x.a ∨ k ∈ x.b ∨ k ∈ x.c := by unfold TL.all; simp
theorem dHas (hn : n ≤ 900) (hx : x.n ≤ n + 1) : Bc (TD n seed s x) k = some (decide (k ∈ x.all)) := by
 unfold Bc
 rw [dIn hn hx, Option.bind_some]
 by_cases h1 : k ∈ x.a
 ·simp [h1, all_m]
 ·by_cases h2 : k ∈ x.b
  ·simp [h1, h2, all_m]
  ·by_cases h3 : k ∈ x.c
   ·simp [h1, h2, h3, all_m]
   ·simp [h1, h2, h3, all_m]
theorem dLen (hn : n ≤ 900) (hx : x.n ≤ n + 1) : BS (TD n seed s x) = some (x.n : Int) := by
 unfold BS
 rw [rmany (TL.fl hn hx) (by simp), Option.bind_some, fl_all, all_n]
theorem dBack (hn : n ≤ 900) (hx : x.n ≤ n + 1) {i : Nat} {l : List Str} (hl : x.L[i]? = some l) (p : Int) : Ar ⟨x.L, p⟩ (i : Int) = some (match l.getLast? with | some k => (k, true) | none => ([], false)) :=
 rback hl (TL.hb hn hx l (List.mem_of_getElem? hl))
theorem dDrop (hn : n ≤ 900) (hx : x.n ≤ n + 1) (p : Int) : Az ⟨x.L, p⟩ k = some ⟨(x.drop k).L, p⟩ := by
 rw [rdrop (TL.hb hn hx) (by simp), rmL]
theorem dfront0 (hn : n ≤ 900) (hx : x.n ≤ n + 1) (h64 : k.length ≤ 64) (hr : k ∈ x.all ∨ x.n ≤ n) : AA (TD n seed s x) 0 k = some (TD n seed s (x.fr0 k)) := by
 unfold AA
 rw [show AP (TD n seed s x).R 0 k = _ from rfront (i := 0) (TL.hb hn hx) (by simp) (TL.fl hn hx) (by simp) h64 (by rw [fl_all, all_n]; exact hr.imp id (by omega)), Option.bind_some, frL0]
theorem dfront1 (hn : n ≤ 900) (hx : x.n ≤ n + 1) (h64 : k.length ≤ 64) (hr : k ∈ x.all ∨ x.n ≤ n) : AA (TD n seed s x) 1 k = some (TD n seed s (x.fr1 k)) := by
 unfold AA
 rw [show AP (TD n seed s x).R 1 k = _ from rfront (i := 1) (TL.hb hn hx) (by simp) (TL.fl hn hx) (by simp) h64 (by rw [fl_all, all_n]; exact hr.imp id (by omega)), Option.bind_some, frL1]
theorem dfront2 (hn : n ≤ 900) (hx : x.n ≤ n + 1) (h64 : k.length ≤ 64) (hr : k ∈ x.all ∨ x.n ≤ n) : AA (TD n seed s x) 2 k = some (TD n seed s (x.fr2 k)) := by
 unfold AA
 rw [show AP (TD n seed s x).R 2 k = _ from rfront (i := 2) (TL.hb hn hx) (by simp) (TL.fl hn hx) (by simp) h64 (by rw [fl_all, all_n]; exact hr.imp id (by omega)), Option.bind_some, frL2]
theorem parts_r (n : Nat) (h1 : 1 ≤ n) (h : n ≤ 1000) : BI (n : Int) = ((Wn n : Int), (Sf n : Int)) := by
 have e1 : i64 ((n : Int).tdiv 8) = ((n / 8 : Nat) : Int) := by
  rw [show (n : Int).tdiv 8 = ((n / 8 : Nat) : Int) by rw [Int.tdiv_eq_ediv_of_nonneg (by omega)]; omega, i64s _ (by omega) (by omega)]
 have e2 : (if decide (((n / 8 : Nat) : Int) < 1) = true then (1 : Int) else ((n / 8 : Nat) : Int)) = (Wn n : Int) := by
  unfold Wn; simp only [decide_eq_true_eq]; split <;> omega
 have hw := Wn_le h1
 have e3 : i64 ((n : Int) - (Wn n : Int)) = ((n - Wn n : Nat) : Int) := by rw [i64s _ (by omega) (by omega)]; omega
 have e4 : i64 (((n - Wn n : Nat) : Int) * 4) = (((n - Wn n) * 4 : Nat) : Int) := by rw [i64s _ (by omega) (by omega)]; omega
 have e5 : (((n - Wn n) * 4 : Nat) : Int).tdiv 5 = ((Sf n : Nat) : Int) := by
  unfold Sf
  rw [Int.tdiv_eq_ediv_of_nonneg (by omega)]; omega
 have e6 : i64 ((Sf n : Nat) : Int) = (Sf n : Int) := by
  have : Sf n ≤ 1000 := by unfold Sf; omega
  rw [i64s _ (by omega) (by omega)]
 unfold BI
 rw [lt_eq, e1, e2, e3, e4, e5, e6]
end
end Go.Proofs.YthngfieikhillaaGreat.Pure
namespace Go.Proofs.YthngfieikhillaaGreat.Pure
open Go Go.Proofs.YthngfieikhillaaGreat.Hw
section
variable {n : Nat} {seed : UInt64} {t : Ak} {s : Sk} {x : TL} {k : Str}
theorem TR.xn (h : TR n seed t s x) : x.n ≤ n + 1 := by have := h.bn; omega
theorem dAdd (h : TR n seed t s x) (hk : k.length ≤ 100000) : AX (s.M (wd n) seed) k = some ((ad (wd n) seed s k).M (wd n) seed) := Add_m h.w1 h.w2 h.ok (plc_ok h.w1 h.w2 hk)
theorem dSeen' (h : TR n seed t s x) (hk : k.length ≤ 100000) {s' : Sk} (h' : s'.ok (wd n)) : AQ (s'.M (wd n) seed) k = some (sn (wd n) seed s' k : Int) := Seen_m h.w1 h.w2 h' (plc_ok h.w1 h.w2 hk)
theorem dTouch_no (h : TR n seed t s x) (hn : n ≤ 900) (hk : k ∉ x.all) : A2 (TD n seed s x) k = some (TD n seed s x, false) := by
 have hm := fun e => hk (all_m.2 e)
 unfold A2
 rw [dIn hn h.xn, if_neg (fun e => hm (.inl e)), if_neg (fun e => hm (.inr (.inl e))), if_neg (fun e => hm (.inr (.inr e)))]
 rfl
theorem dTouch (h : TR n seed t s x) (hn : n ≤ 900) (hk : k ∈ x.all) : A2 (TD n seed s x) k = some (TD n seed (ad (wd n) seed s k) (tch n x k), true) := by
 have h64 := h.kl k hk
 have hnd := h.nd
 have hx := h.xn
 unfold A2 tch
 rw [dIn hn hx]
 by_cases h1 : k ∈ x.a
 ·rw [if_pos h1, if_pos h1, Option.bind_some, if_neg (by decide), dAdd h (by omega), Option.bind_some, if_pos (by rfl)]
  rw [show AA _ 0 k = _ from dfront0 (s := ad (wd n) seed s k) (seed := seed) hn hx h64 (.inl hk)]
  rfl
 ·have e2 := fr_n2 hnd hk
  have hmid : (AA (TD n seed (ad (wd n) seed s k) x) 2 k).bind (fun r42 => lt (BI r42.Most) fun r53 => (gi r42.R.L 2).bind fun x55 => if decide (r53.2 < (x55.length : Int)) then (Ar r42.R 2).bind fun r60 => (AA r42 1 r60.1).bind fun r62 => some (r62, true) else some (r42, true)) = some (TD n seed (ad (wd n) seed s k) (if Sf n < (x.fr2 k).c.length then (x.fr2 k).fr1 ((x.fr2 k).c.getLastD []) else x.fr2 k), true) := by
   rw [dfront2 hn hx h64 (.inl hk), Option.bind_some, lt_eq]
   dsimp only
   rw [parts_r n h.n1 h.n2, show gi (x.fr2 k).L 2 = some (x.fr2 k).c from rfl, Option.bind_some]
   by_cases hc : Sf n < (x.fr2 k).c.length
   ·have hne : (x.fr2 k).c ≠ [] := fun e => by rw [e] at hc; simp at hc
    have hl := lastD_mem hne
    have hla : (x.fr2 k).c.getLastD [] ∈ (x.fr2 k).all := all_m.2 (.inr (.inr hl))
    have h64' : ((x.fr2 k).c.getLastD []).length ≤ 64 := h.kl _ ((perm_mem (fr2_all x k) hk hnd).mem_iff.1 hla)
    rw [if_pos (by simp; omega), show Ar _ 2 = _ from dBack (i := 2) (l := (x.fr2 k).c) hn (by omega) rfl _, Option.bind_some, if_pos hc]
    have e3 : (x.fr2 k).c.getLast? = some ((x.fr2 k).c.getLastD []) := by
     conv => lhs; rw [lastD hne]
     simp
    rw [e3]
    dsimp only
    rw [dfront1 hn (by omega) h64' (.inl hla)]
    rfl
   ·rw [if_neg (by simp; omega), if_neg hc]
  rw [if_neg h1, if_neg h1]
  by_cases h2 : k ∈ x.b
  ·rw [if_pos h2, Option.bind_some, if_neg (by decide), dAdd h (by omega), Option.bind_some, if_neg (by decide)]
   exact hmid
  ·have h3 : k ∈ x.c := by have := all_m.1 hk; simpa [h1, h2] using this
   rw [if_neg h2, if_pos h3, Option.bind_some, if_neg (by decide), dAdd h (by omega), Option.bind_some, if_neg (by decide)]
   exact hmid
theorem dRemove (h : TR n seed t s x) (hn : n ≤ 900) : BP (TD n seed s x) k = some (TD n seed s (x.drop k), decide (k ∈ x.all)) := by
 unfold BP
 rw [dHas hn h.xn, Option.bind_some, show Az _ k = _ from dDrop hn h.xn _]
 rfl
theorem dMiss (h : TR n seed t s x) (hk : k.length ≤ 80) : B5 (TD n seed s x) k = some (TD n seed (if k.length ≤ 64 then ad (wd n) seed s k else s) x) := by
 unfold B5
 by_cases h1 : k.length ≤ 64
 ·rw [if_pos (by simp; omega), dAdd h (by omega), if_pos h1]; rfl
 ·rw [if_neg (by simp; omega), if_neg h1]
theorem dEvict (h : TR n seed t s x) (hn : n ≤ 900) : BW (TD n seed s x) = some (match evk x with | some k => (TD n seed s (x.drop k), k, true) | none => (TD n seed s x, [], false)) := by
 have hx := h.xn
 have b0 := dBack (i := 0) (l := x.a) hn hx rfl ((n + 1 : Nat) : Int)
 have b1 := dBack (i := 1) (l := x.b) hn hx rfl ((n + 1 : Nat) : Int)
 have b2 := dBack (i := 2) (l := x.c) hn hx rfl ((n + 1 : Nat) : Int)
 have D : ∀ k, Az ⟨x.L, ((n + 1 : Nat) : Int)⟩ k = _ := fun k => dDrop (k := k) hn hx _
 unfold BW evk
 rw [A8, if_pos (by decide), show gi [(1 : Int), 0, 2] 0 = some 1 from rfl, Option.bind_some, show Ar _ 1 = _ from b1, Option.bind_some]
 cases e1 : x.b.getLast? with
 | some k => dsimp only; rw [if_pos rfl, D k]; rfl
 | none =>
  dsimp only
  rw [if_neg (by decide), j0, A8, if_pos (by decide), show gi [(1 : Int), 0, 2] 1 = some 0 from rfl, Option.bind_some, show Ar _ 0 = _ from b0, Option.bind_some]
  cases e2 : x.a.getLast? with
  | some k => dsimp only; rw [if_pos rfl, D k]; rfl
  | none =>
   dsimp only
   rw [if_neg (by decide), j1, A8, if_pos (by decide), show gi [(1 : Int), 0, 2] 2 = some 2 from rfl, Option.bind_some, show Ar _ 2 = _ from b2, Option.bind_some]
   cases e3 : x.c.getLast? with
   | some k => dsimp only; rw [if_pos rfl, D k]; rfl
   | none => dsimp only; rw [if_neg (by decide), j2, A8, if_neg (by decide)]; rfl
theorem dInsert_long (hk : 64 < k.length) : AY (TD n seed s x) k = some (TD n seed s x, []) := by
 unfold AY
 rw [if_pos (by simp; omega)]
theorem dInsert_yes (h : TR n seed t s x) (hn : n ≤ 900) (hk : k ∈ x.all) : AY (TD n seed s x) k = some (TD n seed (ad (wd n) seed s k) (tch n x k), []) := by
 have h64 := h.kl k hk
 unfold AY
 rw [if_neg (by simp; omega), dTouch h hn hk, Option.bind_some, if_pos rfl]
theorem getL {l : List Str} (h : l ≠ []) : l.getLast? = some (l.getLastD []) := by
 conv => lhs; rw [lastD h]
 simp
theorem dInsert_no (h : TR n seed t s x) (hn : n ≤ 900) (hk : k ∉ x.all) (h64 : k.length ≤ 64) : AY (TD n seed s x) k = some (TD n seed (ad (wd n) seed s k) (ins n seed (ad (wd n) seed s k) x k).1, (ins n seed (ad (wd n) seed s k) x k).2) := by
 have hx := h.xn
 have hbn := h.bn
 have hnd := h.nd
 have ok' := h.adok k
 have ey := fr0_new hk
 have hal : (x.fr0 k).all = k :: x.all := by rw [ey]; rfl
 have hyn : (x.fr0 k).n = x.n + 1 := by rw [← all_n, hal, List.length_cons, all_n]
 have nd1 : (x.fr0 k).all.Nodup := by rw [hal]; exact List.nodup_cons.2 ⟨hk, hnd⟩
 have kl1 : ∀ q ∈ (x.fr0 k).all, q.length ≤ 64 := by
  rw [hal]; intro q hq
  rcases List.mem_cons.1 hq with rfl | hq
  ·exact h64
  ·exact h.kl q hq
 have hya : (x.fr0 k).a ≠ [] := by rw [ey]; simp
 have hla := lastD_mem hya
 have ha : (x.fr0 k).a.getLastD [] ∈ (x.fr0 k).all := all_m.2 (.inl hla)
 have ha64 := kl1 _ ha
 unfold AY
 rw [if_neg (by simp; omega), dTouch_no h hn hk, Option.bind_some, if_neg (by simp), dAdd h (by omega), Option.bind_some,
  show AA _ 0 k = _ from dfront0 (s := ad (wd n) seed s k) (seed := seed) hn hx h64 (.inr hbn), Option.bind_some, lt_eq]
 dsimp only
 rw [parts_r n h.n1 h.n2, show gi (x.fr0 k).L 0 = some (x.fr0 k).a from rfl, Option.bind_some]
 unfold ins
 generalize hy : x.fr0 k = y at *
 generalize hs' : ad (wd n) seed s k = s' at *
 by_cases c1 : y.a.length ≤ Wn n
 ·rw [if_pos (by simp; omega), if_pos c1]
 ·rw [if_neg (by simp; omega), if_neg c1, show Ar _ 0 = _ from dBack (i := 0) (l := y.a) hn (by omega) rfl _, Option.bind_some, dLen hn (by omega), Option.bind_some, getL hya]
  by_cases c2 : y.n ≤ n
  ·rw [if_pos (by simp; omega), if_pos c2]
   dsimp only
   rw [dfront1 hn (by omega) ha64 (.inl ha)]; rfl
  ·rw [if_neg (by simp; omega), if_neg c2]
   have e0 : (Az ⟨y.L, ((n + 1 : Nat) : Int)⟩ (y.a.getLastD [])).bind (fun r100 => some ((⟨(n : Int), s'.M (wd n) seed, r100⟩ : Ad), [y.a.getLastD []])) = some (TD n seed s' (y.drop (y.a.getLastD [])), [y.a.getLastD []]) := by
    rw [dDrop hn (by omega)]; rfl
   have e1 : ∀ o, o ∈ y.b ∨ o ∈ y.c → (Option.bind (if true = true then (AQ (s'.M (wd n) seed) (y.a.getLastD [])).bind fun r111 => (AQ (s'.M (wd n) seed) o).bind fun r113 => some (decide (r113 < r111)) else some false) fun p74 => if p74 then (Az ⟨y.L, ((n + 1 : Nat) : Int)⟩ o).bind fun r80 => (AA (⟨(n : Int), s'.M (wd n) seed, r80⟩ : Ad) 1 (y.a.getLastD [])).bind fun r88 => some (r88, [o]) else (Az ⟨y.L, ((n + 1 : Nat) : Int)⟩ (y.a.getLastD [])).bind (fun r100 => some ((⟨(n : Int), s'.M (wd n) seed, r100⟩ : Ad), [y.a.getLastD []]))) =
     some (TD n seed s' (if sn (wd n) seed s' o < sn (wd n) seed s' (y.a.getLastD []) then ((y.drop o).fr1 (y.a.getLastD []), [o]) else (y.drop (y.a.getLastD []), [y.a.getLastD []])).1, (if sn (wd n) seed s' o < sn (wd n) seed s' (y.a.getLastD []) then ((y.drop o).fr1 (y.a.getLastD []), [o]) else (y.drop (y.a.getLastD []), [y.a.getLastD []])).2) := by
    intro o ho
    have hoa : o ∈ y.all := all_m.2 (.inr ho)
    have ho64 := kl1 o hoa
    obtain ⟨_, _, _, dj, _⟩ := all_nd_a nd1
    have hne : y.a.getLastD [] ≠ o := fun e => by
     have := dj _ hla
     rw [e] at this
     exact ho.elim this.1 this.2
    rw [if_pos rfl, dSeen' h (by omega) ok', Option.bind_some, dSeen' h (by omega) ok', Option.bind_some, Option.bind_some]
    by_cases c3 : sn (wd n) seed s' o < sn (wd n) seed s' (y.a.getLastD [])
    ·have hdn : (y.drop o).n + 1 = y.n := by
      rw [← all_n, ← all_n, drop_all]; exact rm_len nd1 hoa
     rw [if_pos (by simpa using c3), if_pos c3, dDrop hn (by omega), Option.bind_some, show AA _ 1 _ = _ from dfront1 (s := s') (seed := seed) hn (by omega) ha64 (.inl (by rw [drop_all]; exact rm_mem.2 ⟨ha, hne⟩))]
     rfl
    ·rw [if_neg (by simpa using c3), if_neg c3]
     exact e0
   dsimp only
   rw [show Ar _ 1 = _ from dBack (i := 1) (l := y.b) hn (by omega) rfl _, Option.bind_some]
   unfold lst
   cases eb : y.b.getLast? with
   | some o =>
    dsimp only
    rw [if_neg (by decide), Option.bind_some]
    exact e1 o (.inl (List.mem_of_getLast? eb))
   | none =>
    dsimp only
    rw [if_pos (by decide), show Ar _ 2 = _ from dBack (i := 2) (l := y.c) hn (by omega) rfl _, Option.bind_some]
    cases ec : y.c.getLast? with
    | some o =>
     dsimp only
     rw [Option.bind_some]
     exact e1 o (.inr (List.mem_of_getLast? ec))
    | none =>
     dsimp only
     rw [Option.bind_some, if_neg (by decide), Option.bind_some, if_neg (by decide)]
     exact e0
end
end Go.Proofs.YthngfieikhillaaGreat.Pure
