import Derived.Test.YtpanhdnglicknaaGreatW3
import Derived.Test.YtpanhdnglicknaaGreatPskZ
import Derived.Test.YtpanhdnglicknaaGreatPskP
import Derived.Test.YtpanhdnglicknaaGreatPringA
import Derived.Test.YtpanhdnglicknaaGreatPringB
import Derived.Test.YtpanhdnglicknaaGreatPringC
import Derived.Test.YtpanhdnglicknaaGreatPringD
import Derived.Test.YtpanhdnglicknaaGreatPringE
import Derived.Test.YtpanhdnglicknaaGreatPringF
import Derived.Test.YtpanhdnglicknaaGreatPtinyZ
set_option linter.unusedVariables false
set_option linter.unusedSectionVars false
set_option linter.unusedSimpArgs false
set_option maxRecDepth 100000
set_option maxHeartbeats 8000000

namespace Go.Proofs.YtpanhdnglicknaaGreat.Pure
open Go Go.Proofs.YtpanhdnglicknaaGreat.Hw Go.Proofs.YtpanhdnglicknaaGreat

theorem lastD {l : List Str} (h : l ≠ []) : l = l.dropLast ++ [l.getLastD []] := by
  rw [List.getLastD_eq_getLast?, List.getLast?_eq_some_getLast h, Option.getD_some]
  exact (List.dropLast_concat_getLast h).symm
theorem lastD_mem {l : List Str} (h : l ≠ []) : l.getLastD [] ∈ l := by
  rw [List.getLastD_eq_getLast?, List.getLast?_eq_some_getLast h, Option.getD_some]
  exact List.getLast_mem h
theorem all_nd_a {x : TL} (h : x.all.Nodup) : x.a.Nodup ∧ x.b.Nodup ∧ x.c.Nodup ∧ (∀ k ∈ x.a, k ∉ x.b ∧ k ∉ x.c) ∧ ∀ k ∈ x.b, k ∉ x.c := by
  unfold TL.all at h
  rw [List.nodup_append, List.nodup_append] at h
  obtain ⟨h1, ⟨h2, h3, h4⟩, h5⟩ := h
  refine ⟨h1, h2, h3, fun k hk => ⟨fun q => h5 k hk k (by simp [q]) rfl, fun q => h5 k hk k (by simp [q]) rfl⟩, fun k hk q => h4 k hk k q rfl⟩
section
variable {n : Nat} {seed : UInt64} {t : tiny_Tiny} {s : Sk} {x : TL}
theorem TR.add (h : TR n seed t s x) {key : Str} (hk : key.length ≤ 100000) : sketch_Sketch_Add (s.C (wd n) seed) key = some ((ad (wd n) seed s key).C (wd n) seed) := Add_c h.w1 h.w2 h.ok (plc_ok h.w1 h.w2 hk)
theorem TR.adok (h : TR n seed t s x) (key : Str) : (ad (wd n) seed s key).ok (wd n) := put_ok h.w1 h.ok
theorem TR.mk' (h : TR n seed t s x) {key : Str} {r : ring_Rings} {y : TL} (hR : RR 3 (n + 1) r y.L) (b1 : y.b.length + y.c.length + Wn n ≤ n) (b2 : y.a.length ≤ Wn n) (b3 : y.c.length ≤ Sf n) :
    TR n seed ⟨t.most, some ((ad (wd n) seed s key).C (wd n) seed), some r⟩ (ad (wd n) seed s key) y :=
  ⟨h.n1, h.n2, h.ms, rfl, h.adok key, ⟨r, rfl, hR⟩, b1, b2, b3⟩
theorem TR.touch_no (h : TR n seed t s x) {k : Str} (hk : k ∉ x.all) : tiny_Tiny_Touch t k = some (false, t) := by
  unfold tiny_Tiny_Touch
  rw [h.Has, Option.bind_some]; simp [hk]
theorem TR.touch (h : TR n seed t s x) {k : Str} (hk : k ∈ x.all) : ∃ t', tiny_Tiny_Touch t k = some (true, t') ∧ TR n seed t' (ad (wd n) seed s k) (tch n x k) ∧ (tch n x k).all.Perm x.all := by
  have h64 := h.kl k hk
  have hnd := h.nd
  obtain ⟨na, nb, nc, d1, d2⟩ := all_nd_a hnd
  obtain ⟨r, hr, hR⟩ := h.rg
  have hn := h.n2
  have hfl : k ∈ x.L.flatten := by rw [fl_all]; exact hk
  have e1 := h.bn
  unfold tiny_Tiny_Touch tch
  rw [h.Has, Option.bind_some, if_neg (by simp [hk]), h.sk, om_some, h.add (by omega), Option.bind_some, hr, om_some]
  by_cases ha : k ∈ x.a
  · obtain ⟨r', e, hR'⟩ := hR.frontA (by omega) h64 (.inl hfl) (j := 0) (by omega)
    have pm := perm_mem (fr0_all x k) hk hnd
    rw [hR.in_some (i := 0) rfl ha, Option.bind_some, if_pos (by simp), show ring_Rings_Front r 0 k = _ from e, Option.bind_some, if_pos ha]
    refine ⟨_, rfl, h.mk' (y := x.fr0 k) hR' ?_ ?_ ?_, pm⟩
    · have := rm_le x.b k; have := rm_le x.c k; have := h.bb
      show (TL.rm x.b k).length + (TL.rm x.c k).length + _ ≤ n; omega
    · show (k :: TL.rm x.a k).length ≤ _
      have := rm_len na ha; have := h.ba; simp; omega
    · exact Nat.le_trans (rm_le _ _) h.bc
  · have hin : ∃ i : Nat, ring_Rings_In r k = some (((i + 1 : Nat) : Int), true) := by
      have : k ∈ x.b ∨ k ∈ x.c := by unfold TL.all at hk; simpa [ha] using hk
      rcases this with q | q
      · exact ⟨0, hR.in_some (i := 1) rfl q⟩
      · exact ⟨1, hR.in_some (i := 2) rfl q⟩
    obtain ⟨i, hi⟩ := hin
    obtain ⟨r', e, hR'⟩ := hR.frontA (by omega) h64 (.inl hfl) (j := 2) (by omega)
    have hR2 : RR 3 (n + 1) r' (x.fr2 k).L := hR'
    have pm := perm_mem (fr2_all x k) hk hnd
    have nd2 : (x.fr2 k).all.Nodup := pm.nodup_iff.2 hnd
    have lc := hR2.Len (i := 2) (l := (x.fr2 k).c) rfl
    have b3 : (x.fr2 k).c.length ≤ Sf n + 1 := by
      show (k :: TL.rm x.c k).length ≤ _
      have := rm_le x.c k; have := h.bc; simp; omega
    have b2 : (x.fr2 k).a.length ≤ Wn n := Nat.le_trans (rm_le _ _) h.ba
    have b1 : (x.fr2 k).b.length + (x.fr2 k).c.length = x.b.length + x.c.length := by
      have q1 := pm.length_eq
      have q2 : (TL.rm x.a k).length = x.a.length := by rw [rm_no ha]
      have q3 : (x.fr2 k).a.length = x.a.length := q2
      rw [all_n, all_n] at q1; unfold TL.n at q1; omega
    have hbb := h.bb
    rw [hi, Option.bind_some, if_neg (by simp; omega), show ring_Rings_Front r 2 k = _ from e, Option.bind_some, show ring_Rings_Len r' 2 = _ from lc, Option.bind_some, h.ms, parts_c n hn h.n1, if_neg ha]
    by_cases hc : Sf n < (x.fr2 k).c.length
    · rw [if_pos (by simpa using hc), if_pos hc]
      have hne : (x.fr2 k).c ≠ [] := by intro q; rw [q] at hc; simp at hc
      have bk := hR2.Back (i := 2) (l := (x.fr2 k).c.dropLast) (x := (x.fr2 k).c.getLastD []) (by show some (x.fr2 k).c = _; rw [← lastD hne])
      have zm := lastD_mem hne
      generalize (x.fr2 k).c.getLastD [] = z at bk zm
      have zall : z ∈ (x.fr2 k).all := by unfold TL.all; simp [zm]
      have z64 : z.length ≤ 64 := hR2.kl z (by rw [fl_all]; exact zall)
      obtain ⟨r3, e3, hR3⟩ := hR2.frontA (by omega) z64 (.inl (by rw [fl_all]; exact zall)) (j := 1) (by omega)
      have pm3 := perm_mem (fr1_all (x.fr2 k) z) zall nd2
      rw [show ring_Rings_Back r' 2 = _ from bk, Option.bind_some, show ring_Rings_Front r' 1 z = _ from e3, Option.bind_some]
      refine ⟨_, rfl, ?_, pm3.trans pm⟩
      have := h.mk' (key := k) (y := (x.fr2 k).fr1 z) hR3 (by
        have q1 := pm3.length_eq
        have q2 : ((x.fr2 k).fr1 z).a.length = (x.fr2 k).a.length := by
          show (TL.rm (x.fr2 k).a z).length = _
          rw [rm_no (fun q => ((all_nd_a nd2).2.2.2.1 z q).2 zm)]
        rw [all_n, all_n] at q1; unfold TL.n at q1; omega) (Nat.le_trans (rm_le _ _) b2) (by
        show (TL.rm (x.fr2 k).c z).length ≤ _
        have := rm_len (all_nd_a nd2).2.2.1 zm; omega)
      rw [h.ms] at this; exact this
    · rw [if_neg (by simpa using hc), if_neg hc]
      refine ⟨_, rfl, ?_, pm⟩
      have := h.mk' (key := k) (y := x.fr2 k) hR2 (by omega) b2 (by omega)
      rw [h.ms] at this; exact this
end
theorem new_t (n : Nat) (seed : UInt64) (h1 : 1 ≤ n) (h2 : n ≤ 1000) : ∃ t s, tiny_New (n : Int) seed = some (some t, 0) ∧ TR n seed t s ⟨[], [], []⟩ ∧ s = ⟨List.replicate (wd n) 0, List.replicate (wd n) 0, List.replicate (wd n) 0, List.replicate (wd n) 0, List.replicate (wd n) false, 0⟩ := by
  have w1 : 1 ≤ wd n := by unfold wd; omega
  have w2 : wd n ≤ 4096 := by unfold wd; omega
  obtain ⟨r, e, hR⟩ := new_ok 3 (n + 1) (by omega) (by omega) (by omega)
  have e' : ring_New 3 (i64 ((n : Int) + 1)) = some (some r, 0) := by
    rw [i64s _ (by omega) (by omega)]; exact e
  unfold tiny_New
  rw [if_neg (by simp; omega), wide_c n h2, new_c (wd n) seed w1 w2, Option.bind_some, e', Option.bind_some]
  exact ⟨_, _, rfl, ⟨h1, h2, rfl, rfl, zero_ok _ w1, ⟨r, rfl, hR⟩, by have := Wn_le h1; simpa using this, by simp, by simp⟩, rfl⟩
end Go.Proofs.YtpanhdnglicknaaGreat.Pure
