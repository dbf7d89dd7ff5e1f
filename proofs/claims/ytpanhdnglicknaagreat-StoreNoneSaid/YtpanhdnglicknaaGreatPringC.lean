import Derived.Test.YtpanhdnglicknaaGreatW3
import Derived.Test.YtpanhdnglicknaaGreatPskZ
import Derived.Test.YtpanhdnglicknaaGreatPskP
import Derived.Test.YtpanhdnglicknaaGreatPringA
import Derived.Test.YtpanhdnglicknaaGreatPringB
set_option linter.unusedVariables false
set_option linter.unusedSectionVars false
set_option linter.unusedSimpArgs false
set_option maxRecDepth 100000
set_option maxHeartbeats 8000000

namespace Go.Proofs.YtpanhdnglicknaaGreat.Pure
open Go Go.Proofs.YtpanhdnglicknaaGreat.Hw Go.Proofs.YtpanhdnglicknaaGreat

theorem i64s (n : Int) (h1 : -9223372036854775808 ≤ n) (h2 : n < 9223372036854775808) : i64 n = n := by unfold i64; omega
section
variable {k n : Nat} {S : List ring_slot} {many : List Int} {P : List (List Nat)}
theorem Cor.ikl (h : Cor k n S many P) {i : Nat} {Q : List Nat} (hQ : P[i]? = some Q) : i < k := by
  have := (List.getElem?_eq_some_iff.1 hQ).1; have := h.pl; omega
/-- A place is taken out of its list. -/
theorem cut_ok {r : ring_Rings} (h : Cor k n r.slots r.many P) (hn : n ≤ 4096) {i : Nat} {A B : List Nat} {p : Nat} (hP : P[i]? = some (A ++ p :: B)) :
    ∃ S' many', ring_Rings_cut r (p : Int) = some ⟨r.lists, S', r.free, r.at_, many'⟩ ∧ Cor k n S' many' (P.set i (A ++ B)) ∧ S'.length = r.slots.length ∧ ∀ q, (S0 S' q).key = (S0 r.slots q).key := by
  have hik := h.ikl hP
  have hp := h.rg p (mem_fl hP (by simp))
  obtain ⟨X, a, ha⟩ := ends i A
  obtain ⟨b, Y, hb⟩ := begins i B
  have hl := h.lk i _ hP
  have path : i :: ((A ++ p :: B) ++ [i]) = X ++ a :: p :: b :: Y := by
    rw [show i :: ((A ++ p :: B) ++ [i]) = (i :: A) ++ p :: (B ++ [i]) by simp, ha, hb]; simp
  have path2 : i :: ((A ++ B) ++ [i]) = X ++ a :: b :: Y := by
    rw [show i :: ((A ++ B) ++ [i]) = (i :: A) ++ (B ++ [i]) by simp, ha, hb]; simp
  rw [path] at hl
  obtain ⟨_, l1, l2, l3⟩ := (lk_app X a p (b :: Y)).1 hl
  obtain ⟨l4, l5, _⟩ := l3
  have hnd : (i :: (A ++ p :: B)).Nodup := by
    refine List.nodup_cons.2 ⟨fun hm => ?_, fl_nd h.nd hP⟩
    have := (h.rg i (mem_fl hP hm)).1; omega
  have am : a ∈ i :: A := by rw [ha]; simp
  have bm : b ∈ B ++ [i] := by rw [hb]; simp
  have A1 : a < k + n := by
    rcases List.mem_cons.1 am with rfl | q
    · omega
    · exact (h.rg a (mem_fl hP (by simp [q]))).2
  have B1 : b < k + n := by
    rcases List.mem_append.1 bm with q | q
    · exact (h.rg b (mem_fl hP (by simp [q]))).2
    · simp at q; omega
  have hm : gi r.many (i : Int) = some ((A ++ p :: B).length : Int) := by rw [h.mn]; exact lens_get hP
  obtain ⟨S', e, hlen, hS⟩ := cut_eq (r := r) (by rw [h.len]; exact hp.2) (by rw [h.len]; exact A1) (by rw [h.len]; exact B1) l2 l4 (h.ow i _ hP p (by simp)) hm
  -- what stands where
  have hnA : (i :: A).Nodup := by
    have : (i :: A).Sublist (i :: (A ++ p :: B)) := by simp
    exact this.nodup hnd
  have hnB : (B ++ [i]).Nodup := by
    have hi : i ∉ A ++ p :: B := (List.nodup_cons.1 hnd).1
    have := (List.nodup_cons.1 hnd).2
    rw [List.nodup_append] at this ⊢
    refine ⟨(List.nodup_cons.1 this.2.1).2, by simp, ?_⟩
    rintro x hx y hy rfl
    simp at hy; subst hy
    exact hi (by simp [hx])
  have dj : ∀ x, x ∈ i :: A → x ∈ B → False := by
    intro x hx hB
    rcases List.mem_cons.1 hx with rfl | q
    · exact (List.nodup_cons.1 hnd).1 (by simp [hB])
    · have := (List.nodup_cons.1 hnd).2
      rw [List.nodup_append] at this
      exact this.2.2 x q x (by simp [hB]) rfl
  have n1 : a ∉ X := by rw [ha] at hnA; rw [List.nodup_append] at hnA; intro q; exact hnA.2.2 a q a (by simp) rfl
  have n2 : a ∉ (b :: Y).dropLast := by rw [← hb, List.dropLast_concat]; exact fun q => dj a am q
  have n3 : b ∉ Y := by rw [hb] at hnB; exact (List.nodup_cons.1 hnB).1
  have n4 : b ∉ (X ++ [a]).tail := by
    rw [← ha, List.tail_cons]
    intro q
    rcases List.mem_append.1 bm with q2 | q2
    · exact dj b (by simp [q]) q2
    · simp at q2; subst q2; exact (List.nodup_cons.1 hnA).1 q
  have hk : ∀ q, (S0 S' q).key = (S0 r.slots q).key := fun q => by rw [hS]
  refine ⟨S', _, e, ⟨by rw [hlen, h.len], by rw [List.length_set, h.pl], ?_, ?_, ?_, ?_, ?_⟩, hlen, hk⟩
  · have hle : (A ++ p :: B).length ≤ n := by
      have s1 : (A ++ p :: B).Sublist P.flatten := by
        obtain ⟨U, V, rfl, _, _⟩ := dec hP
        rw [List.flatten_append, List.flatten_cons]
        exact (List.sublist_append_left _ _).trans (List.sublist_append_right _ _)
      have hr : ∀ x ∈ A ++ p :: B, x ∈ List.range' k n := fun x hx => by
        have := h.rg x (s1.subset hx); rw [List.mem_range'_1]; omega
      have := (s1.nodup h.nd).length_le_of_subset hr
      simpa using this
    rw [h.mn, lens_set]
    rw [i64s] <;> simp at hle ⊢ <;> omega
  · intro j Q hj
    by_cases hji : j = i
    · subst hji
      rw [List.getElem?_set_self (by rw [h.pl]; exact hik)] at hj
      cases hj
      rw [path2]
      exact lk_cut hl (fun q => by unfold nxS; rw [hS]) (fun q => by unfold pvS; rw [hS]) n1 n2 n3 n4
    · rw [List.getElem?_set_ne (fun e => hji e.symm)] at hj
      have hjk := h.ikl hj
      have hnin : ∀ x, x ∈ i :: (A ++ p :: B) → x ∉ j :: (Q ++ [j]) := by
        intro x hx hx2
        have h2 : x = j ∨ x ∈ Q := by simpa [or_comm] using hx2
        rcases List.mem_cons.1 hx with rfl | q
        · rcases h2 with rfl | h2
          · exact hji rfl
          · have := (h.rg x (mem_fl hj h2)).1; omega
        · rcases h2 with rfl | h2
          · have := (h.rg x (mem_fl hP q)).1; omega
          · exact fl_dj h.nd hP hj (fun e => hji e.symm) q h2
      have am2 : a ∈ i :: (A ++ p :: B) := by rcases List.mem_cons.1 am with q | q <;> simp [q]
      have bm2 : b ∈ i :: (A ++ p :: B) := by
        rcases List.mem_append.1 bm with q | q
        · simp [q]
        · simp at q; simp [q]
      refine lk_cg (fun q hq => ?_) (fun q hq => ?_) (h.lk j Q hj)
      · unfold nxS; rw [hS]; dsimp only; rw [if_neg]; rintro rfl; exact hnin _ am2 (List.dropLast_sublist _ |>.subset hq)
      · unfold pvS; rw [hS]; dsimp only; rw [if_neg]; rintro rfl; exact hnin _ bm2 (List.mem_of_mem_tail hq)
  · intro j Q hj x hx
    rw [hS]
    dsimp only
    by_cases hji : j = i
    · subst hji
      rw [List.getElem?_set_self (by rw [h.pl]; exact hik)] at hj
      cases hj
      exact h.ow j _ hP x (by rcases List.mem_append.1 hx with q | q <;> simp [q])
    · rw [List.getElem?_set_ne (fun e => hji e.symm)] at hj
      exact h.ow j Q hj x hx
  · obtain ⟨U, V, e1, _, e2⟩ := dec hP
    rw [e2]
    have := h.nd
    rw [e1] at this
    refine List.Sublist.nodup ?_ this
    simp only [List.flatten_append, List.flatten_cons]
    exact List.Sublist.append (List.Sublist.refl _) (List.Sublist.append (List.Sublist.append (List.Sublist.refl _) (List.sublist_cons_self _ _)) (List.Sublist.refl _))
  · intro x hx
    apply h.rg
    obtain ⟨U, V, e1, _, e2⟩ := dec hP
    rw [e2] at hx
    rw [e1]
    simp only [List.flatten_append, List.flatten_cons, List.mem_append, List.mem_cons] at hx ⊢
    rcases hx with q | (q | q) | q <;> simp [q]
/-- A place that is in no list is put at the front of one. -/
theorem link_ok {r : ring_Rings} (h : Cor k n r.slots r.many P) (hn : n ≤ 4096) {i : Nat} {Q : List Nat} {p : Nat} (hP : P[i]? = some Q) (hp : p ∉ P.flatten) (hp1 : k ≤ p) (hp2 : p < k + n) :
    ∃ S' many', ring_Rings_link r (p : Int) (i : Int) = some ⟨r.lists, S', r.free, r.at_, many'⟩ ∧ Cor k n S' many' (P.set i (p :: Q)) ∧ S'.length = r.slots.length ∧ ∀ q, (S0 S' q).key = (S0 r.slots q).key := by
  have hik := h.ikl hP
  obtain ⟨c, Y, hc⟩ := begins i Q
  have hl := h.lk i _ hP
  rw [hc] at hl
  have l1 : (S0 r.slots i).next = (c : Int) := hl.1
  have hpQ : p ∉ Q := fun q => hp (mem_fl hP q)
  have hpi : p ≠ i := by omega
  have cm : c ∈ Q ++ [i] := by rw [hc]; simp
  have C1 : c < k + n := by
    rcases List.mem_append.1 cm with q | q
    · exact (h.rg c (mem_fl hP q)).2
    · simp at q; omega
  have hpc : p ≠ c := by
    rintro rfl
    rcases List.mem_append.1 cm with q | q
    · exact hpQ q
    · simp at q; exact hpi q
  have hiQ : i ∉ Q := fun q => by have := (h.rg i (mem_fl hP q)).1; omega
  have hnQ : (Q ++ [i]).Nodup := by
    rw [List.nodup_append]
    refine ⟨fl_nd h.nd hP, by simp, ?_⟩
    rintro x hx y hy rfl
    simp at hy; subst hy; exact hiQ hx
  have hm : gi r.many (i : Int) = some (Q.length : Int) := by rw [h.mn]; exact lens_get hP
  obtain ⟨S', e, hlen, hS⟩ := link_eq (r := r) (p := p) (by rw [h.len]; exact hp2) (by rw [h.len]; omega) (by rw [h.len]; exact C1) l1 hpi hm
  refine ⟨S', _, e, ⟨by rw [hlen, h.len], by rw [List.length_set, h.pl], ?_, ?_, ?_, ?_, ?_⟩, hlen, fun q => by rw [hS]⟩
  · have hle : Q.length ≤ n := by
      have s1 : Q.Sublist P.flatten := by
        obtain ⟨U, V, rfl, _, _⟩ := dec hP
        rw [List.flatten_append, List.flatten_cons]
        exact (List.sublist_append_left _ _).trans (List.sublist_append_right _ _)
      have hr : ∀ x ∈ Q, x ∈ List.range' k n := fun x hx => by
        have := h.rg x (s1.subset hx); rw [List.mem_range'_1]; omega
      have := (s1.nodup h.nd).length_le_of_subset hr
      simpa using this
    rw [h.mn, lens_set]
    rw [i64s _ (by omega) (by omega)]; simp
  · intro j T hj
    by_cases hji : j = i
    · subst hji
      rw [List.getElem?_set_self (by rw [h.pl]; exact hik)] at hj
      cases hj
      rw [List.cons_append, hc]
      refine lk_link hl (fun q => by unfold nxS; rw [hS]) (fun q => by unfold pvS; rw [hS]) hpi hpc ?_ ?_ ?_
      · rw [← hc, List.dropLast_concat]; exact hiQ
      · rw [← hc]; intro q; rcases List.mem_append.1 q with q | q
        · exact hpQ q
        · simp at q; exact hpi q
      · rw [hc] at hnQ; exact (List.nodup_cons.1 hnQ).1
    · rw [List.getElem?_set_ne (fun e => hji e.symm)] at hj
      have hjk := h.ikl hj
      have hnin : ∀ x, (x = p ∨ x ∈ i :: Q) → x ∉ j :: (T ++ [j]) := by
        intro x hx hx2
        have h2 : x = j ∨ x ∈ T := by simpa [or_comm] using hx2
        rcases hx with rfl | hx
        · rcases h2 with rfl | h2
          · omega
          · exact hp (mem_fl hj h2)
        · rcases List.mem_cons.1 hx with rfl | q
          · rcases h2 with rfl | h2
            · exact hji rfl
            · have := (h.rg x (mem_fl hj h2)).1; omega
          · rcases h2 with rfl | h2
            · have := (h.rg x (mem_fl hP q)).1; omega
            · exact fl_dj h.nd hP hj (fun e => hji e.symm) q h2
      have cm2 : c ∈ i :: Q := by
        rcases List.mem_append.1 cm with q | q
        · simp [q]
        · simp at q; simp [q]
      refine lk_cg (fun q hq => ?_) (fun q hq => ?_) (h.lk j T hj)
      · have hq' := List.dropLast_sublist _ |>.subset hq
        unfold nxS; rw [hS]; dsimp only; rw [if_neg, if_neg]
        · rintro rfl; exact hnin _ (.inl rfl) hq'
        · rintro rfl; exact hnin _ (.inr (by simp)) hq'
      · have hq' := List.mem_of_mem_tail hq
        unfold pvS; rw [hS]; dsimp only; rw [if_neg, if_neg]
        · rintro rfl; exact hnin _ (.inl rfl) hq'
        · rintro rfl; exact hnin _ (.inr cm2) hq'
  · intro j T hj x hx
    rw [hS]
    dsimp only
    by_cases hji : j = i
    · subst hji
      rw [List.getElem?_set_self (by rw [h.pl]; exact hik)] at hj
      cases hj
      rcases List.mem_cons.1 hx with e | hx2
      · rw [if_pos e]
      · rw [if_neg (fun e : x = p => hpQ (e ▸ hx2))]; exact h.ow j _ hP x hx2
    · rw [List.getElem?_set_ne (fun e => hji e.symm)] at hj
      rw [if_neg (by rintro rfl; exact hp (mem_fl hj hx))]
      exact h.ow j T hj x hx
  · obtain ⟨U, V, e1, _, e2⟩ := dec hP
    rw [e2]
    have h1 := h.nd
    rw [e1] at h1 hp
    have pm : (U ++ (p :: Q) :: V).flatten.Perm (p :: (U ++ Q :: V).flatten) := by
      simp only [List.flatten_append, List.flatten_cons, List.cons_append]
      exact List.perm_middle
    exact pm.nodup_iff.2 (List.nodup_cons.2 ⟨hp, h1⟩)
  · intro x hx
    obtain ⟨U, V, e1, _, e2⟩ := dec hP
    rw [e2] at hx
    have : x = p ∨ x ∈ P.flatten := by
      rw [e1]
      simp only [List.flatten_append, List.flatten_cons, List.mem_append, List.mem_cons] at hx ⊢
      rcases hx with q | (q | q) | q <;> simp [q]
    rcases this with rfl | q
    · exact ⟨hp1, hp2⟩
    · exact h.rg x q
end
end Go.Proofs.YtpanhdnglicknaaGreat.Pure
