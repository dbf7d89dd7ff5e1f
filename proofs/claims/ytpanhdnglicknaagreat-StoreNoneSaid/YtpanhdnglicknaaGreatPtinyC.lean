import Derived.Test.YtpanhdnglicknaaGreatW3
import Derived.Test.YtpanhdnglicknaaGreatPskZ
import Derived.Test.YtpanhdnglicknaaGreatPskP
import Derived.Test.YtpanhdnglicknaaGreatPringA
import Derived.Test.YtpanhdnglicknaaGreatPringB
import Derived.Test.YtpanhdnglicknaaGreatPringC
import Derived.Test.YtpanhdnglicknaaGreatPringD
import Derived.Test.YtpanhdnglicknaaGreatPringE
import Derived.Test.YtpanhdnglicknaaGreatPringF
import Derived.Test.YtpanhdnglicknaaGreatPtinyZ
import Derived.Test.YtpanhdnglicknaaGreatPtinyB
set_option linter.unusedVariables false
set_option linter.unusedSectionVars false
set_option linter.unusedSimpArgs false
set_option maxRecDepth 100000
set_option maxHeartbeats 8000000

namespace Go.Proofs.YtpanhdnglicknaaGreat.Pure
open Go Go.Proofs.YtpanhdnglicknaaGreat.Hw Go.Proofs.YtpanhdnglicknaaGreat

theorem fr0_new {x : TL} {k : Str} (hk : k ∉ x.all) : x.fr0 k = ⟨k :: x.a, x.b, x.c⟩ := by
  unfold TL.all at hk
  simp only [List.mem_append, not_or] at hk
  unfold TL.fr0 TL.drop
  dsimp only
  rw [rm_no hk.1, rm_no hk.2.1, rm_no hk.2.2]
section
variable {n : Nat} {seed : UInt64} {t : tiny_Tiny} {s : Sk} {x : TL}
theorem TR.insert_yes (h : TR n seed t s x) {k : Str} (hk : k ∈ x.all) : ∃ t', tiny_Tiny_Insert t k = some ([], t') ∧ TR n seed t' (ad (wd n) seed s k) (tch n x k) ∧ (tch n x k).all.Perm x.all := by
  obtain ⟨t', e, h1, h2⟩ := h.touch hk
  have h64 := h.kl k hk
  unfold tiny_Tiny_Insert
  rw [if_neg (by simp; omega), e, Option.bind_some, Option.bind_some, if_pos rfl]
  exact ⟨t', rfl, h1, h2⟩
theorem TR.insert_long (h : TR n seed t s x) {k : Str} (hk : 64 < k.length) : tiny_Tiny_Insert t k = some ([], t) := by
  unfold tiny_Tiny_Insert
  rw [if_pos (by simp; omega), Option.bind_some, if_pos rfl]
/-- What is kept behind an insertion of one that was not kept. -/
def Kept (k : Str) (x : TL) (y : TL × List Str) : Prop :=
  (y.2 = [] ∧ y.1.all.Perm (k :: x.all)) ∨ ∃ o, y.2 = [o] ∧ o ∈ k :: x.all ∧ y.1.all.Perm (TL.rm (k :: x.all) o)
theorem lst_mem {y : TL} {o : Str} (h : lst y = some o) : o ∈ y.b ∨ (y.b = [] ∧ o ∈ y.c) := by
  unfold lst at h
  cases e : y.b.getLast? with
  | some k => rw [e] at h; cases h; exact .inl (List.mem_of_getLast? e)
  | none => rw [e] at h; exact .inr ⟨List.getLast?_eq_none_iff.1 e, List.mem_of_getLast? h⟩
theorem last_c {m : Nat} {r : ring_Rings} {y : TL} (hR : RR 3 m r y.L) (mo : Int) (S : Option sketch_Sketch) : tiny_Tiny_last ⟨mo, S, some r⟩ = some (match lst y with | some o => (o, true) | none => ([], false)) := by
  unfold tiny_Tiny_last lst
  rw [om_some]
  cases e : y.b.getLast? with
  | some k =>
    obtain ⟨l, hl⟩ := List.getLast?_eq_some_iff.1 e
    have bk := hR.Back (i := 1) (l := l) (x := k) (by show some y.b = _; rw [hl])
    rw [show ring_Rings_Back r 1 = _ from bk, Option.bind_some, if_pos rfl]
  | none =>
    have eb := List.getLast?_eq_none_iff.1 e
    have bk := hR.Back0 (i := 1) (by show some y.b = _; rw [eb])
    rw [show ring_Rings_Back r 1 = _ from bk, Option.bind_some, if_neg (by simp)]
    cases e2 : y.c.getLast? with
    | some k =>
      obtain ⟨l, hl⟩ := List.getLast?_eq_some_iff.1 e2
      have bk := hR.Back (i := 2) (l := l) (x := k) (by show some y.c = _; rw [hl])
      rw [show ring_Rings_Back r 2 = _ from bk, Option.bind_some]
    | none =>
      have eb := List.getLast?_eq_none_iff.1 e2
      have bk := hR.Back0 (i := 2) (by show some y.c = _; rw [eb])
      rw [show ring_Rings_Back r 2 = _ from bk, Option.bind_some]
theorem TR.insert_no (h : TR n seed t s x) {k : Str} (hk : k ∉ x.all) (h64 : k.length ≤ 64) :
    ∃ t', tiny_Tiny_Insert t k = some ((ins n seed (ad (wd n) seed s k) x k).2, t') ∧ TR n seed t' (ad (wd n) seed s k) (ins n seed (ad (wd n) seed s k) x k).1 ∧ Kept k x (ins n seed (ad (wd n) seed s k) x k) := by
  have hnd := h.nd
  obtain ⟨r, hr, hR⟩ := h.rg
  have hn := h.n2
  have hbn := h.bn
  have hbb := h.bb
  have hba := h.ba
  have hbc := h.bc
  have ok' := h.adok k
  obtain ⟨r1, e1, hR1⟩ := hR.frontA (by omega) h64 (.inr (by rw [fl_all, all_n]; omega)) (j := 0) (by omega)
  have hR1 : RR 3 (n + 1) r1 (x.fr0 k).L := hR1
  have ey := fr0_new hk
  have hal : (x.fr0 k).all = k :: x.all := by rw [ey]; rfl
  have hyn : (x.fr0 k).n = x.n + 1 := by rw [← all_n, hal, List.length_cons, all_n]
  have la := hR1.Len (i := 0) (l := (x.fr0 k).a) rfl
  have hya : (x.fr0 k).a.length = x.a.length + 1 := by rw [ey]; rfl
  have hyb : (x.fr0 k).b.length = x.b.length := by rw [ey]
  have hyc : (x.fr0 k).c.length = x.c.length := by rw [ey]
  have nd1 : (x.fr0 k).all.Nodup := by rw [hal]; exact List.nodup_cons.2 ⟨hk, hnd⟩
  unfold tiny_Tiny_Insert
  rw [if_neg (by simp; omega), h.touch_no hk, Option.bind_some, Option.bind_some, if_neg (by simp)]
  dsimp only
  rw [h.sk, om_some, h.add (by omega), Option.bind_some, hr, om_some, show ring_Rings_Front r 0 k = _ from e1, Option.bind_some]
  dsimp only
  rw [show ring_Rings_Len r1 0 = _ from la, Option.bind_some, h.ms, parts_c n hn h.n1]
  dsimp only
  unfold ins
  generalize ad (wd n) seed s k = s' at ok' ⊢
  generalize x.fr0 k = y at *
  by_cases c1 : y.a.length ≤ Wn n
  · rw [if_pos (by simpa using c1), if_pos c1]
    refine ⟨_, rfl, ⟨h.n1, hn, rfl, rfl, ok', ⟨r1, rfl, hR1⟩, ?_, c1, ?_⟩, .inl ⟨rfl, by rw [hal]⟩⟩
    · dsimp only; omega
    · dsimp only; omega
  · rw [if_neg (by simpa using c1), if_neg c1]
    have hne : y.a ≠ [] := by intro q; rw [q] at c1; simp at c1
    have bk := hR1.Back (i := 0) (l := y.a.dropLast) (x := y.a.getLastD []) (by show some y.a = _; rw [← lastD hne])
    have om := lastD_mem hne
    generalize y.a.getLastD [] = one at bk om ⊢
    obtain ⟨d1, d2, d3, d4, d5⟩ := all_nd_a nd1
    have oall : one ∈ y.all := by unfold TL.all; simp [om]
    have o64 : one.length ≤ 64 := hR1.kl one (by rw [fl_all]; exact oall)
    have ra := rm_len d1 om
    have LEN : tiny_Tiny_Len ⟨(n : Int), some (s'.C (wd n) seed), some r1⟩ = some (y.n : Int) := by
      unfold tiny_Tiny_Len
      have l1 := hR1.Len (i := 1) (l := y.b) rfl
      have l2 := hR1.Len (i := 2) (l := y.c) rfl
      unfold TL.n at *
      rw [om_some, show ring_Rings_Len r1 0 = _ from la, Option.bind_some, show ring_Rings_Len r1 1 = _ from l1, Option.bind_some, show ring_Rings_Len r1 2 = _ from l2, Option.bind_some, i64s ((y.a.length : Int) + (y.b.length : Int)) (by omega) (by omega), i64s _ (by omega) (by omega)]
      congr 1
    rw [show ring_Rings_Back r1 0 = _ from bk, Option.bind_some, LEN, Option.bind_some]
    by_cases c2 : y.n ≤ n
    · obtain ⟨r2, e2, hR2⟩ := hR1.frontA (by omega) o64 (.inl (by rw [fl_all]; exact oall)) (j := 1) (by omega)
      have pm := perm_mem (fr1_all y one) oall nd1
      rw [if_pos (by simpa using c2), if_pos c2, show ring_Rings_Front r1 1 one = _ from e2, Option.bind_some]
      refine ⟨_, rfl, ⟨h.n1, hn, rfl, rfl, ok', ⟨r2, rfl, hR2⟩, ?_, ?_, ?_⟩, .inl ⟨rfl, by rw [← hal]; exact pm⟩⟩
      · have q1 : (y.fr1 one).b.length = y.b.length + 1 := by
          show (one :: TL.rm y.b one).length = _
          rw [rm_no (d4 one om).1]; rfl
        have q2 : (y.fr1 one).c.length = y.c.length := by
          show (TL.rm y.c one).length = _
          rw [rm_no (d4 one om).2]
        dsimp only
        unfold TL.n at c2
        omega
      · show (TL.rm y.a one).length ≤ _; omega
      · show (TL.rm y.c one).length ≤ _; have := rm_le y.c one; omega
    · have LS := last_c hR1 (n : Int) (some (s'.C (wd n) seed))
      rw [if_neg (by simpa using c2), if_neg c2, LS, Option.bind_some]
      have DROP : ∃ t', ((ring_Rings_Drop r1 one).bind fun r82 => some ([one], (⟨(n : Int), (some (s'.C (wd n) seed)), (some r82.2)⟩ : tiny_Tiny))) = some ([one], t') ∧ TR n seed t' s' (y.drop one) ∧ (y.drop one).all.Perm (TL.rm (k :: x.all) one) := by
        obtain ⟨r2, e2, hR2⟩ := hR1.dropA (by omega) (by omega) one
        rw [e2, Option.bind_some]
        refine ⟨_, rfl, ⟨h.n1, hn, rfl, rfl, ok', ⟨r2, rfl, hR2⟩, ?_, ?_, ?_⟩, by rw [drop_all, hal]⟩
        · have := rm_le y.b one; have := rm_le y.c one
          show (TL.rm y.b one).length + (TL.rm y.c one).length + _ ≤ n; omega
        · show (TL.rm y.a one).length ≤ _; omega
        · show (TL.rm y.c one).length ≤ _; have := rm_le y.c one; omega
      obtain ⟨tD, eD, hD, pD⟩ := DROP
      cases eL : lst y with
      | none =>
        dsimp only
        rw [if_neg (by simp), Option.bind_some, if_neg (by simp)]
        exact ⟨tD, eD, hD, .inr ⟨one, rfl, by rw [← hal]; exact oall, pD⟩⟩
      | some o =>
        have omem := lst_mem eL
        have oin : o ∈ y.all := by unfold TL.all; rcases omem with q | q <;> simp [q]
        have ol : o.length ≤ 64 := hR1.kl o (by rw [fl_all]; exact oin)
        have hw1 := h.w1
        have hw2 := h.w2
        have sn1 : sketch_Sketch_Seen (s'.C (wd n) seed) one = some (sn (wd n) seed s' one : Int) := Seen_c hw1 hw2 ok' (plc_ok hw1 hw2 (by omega))
        have sn2 : sketch_Sketch_Seen (s'.C (wd n) seed) o = some (sn (wd n) seed s' o : Int) := Seen_c hw1 hw2 ok' (plc_ok hw1 hw2 (by omega))
        dsimp only
        rw [if_pos rfl, sn1, Option.bind_some, sn2, Option.bind_some, Option.bind_some]
        by_cases c3 : sn (wd n) seed s' o < sn (wd n) seed s' one
        · rw [if_pos (by simpa using c3), if_pos c3]
          obtain ⟨r2, e2, hR2⟩ := hR1.dropA (by omega) (by omega) o
          have hR2 : RR 3 (n + 1) r2 (y.drop o).L := hR2
          have hoo : one ≠ o := by
            rintro rfl
            rcases omem with q | q
            · exact (d4 one om).1 q
            · exact (d4 one om).2 q.2
          have om2 : one ∈ (y.drop o).a := rm_mem.2 ⟨om, hoo⟩
          have oall2 : one ∈ (y.drop o).all := by unfold TL.all; simp [om2]
          have nd2 : (y.drop o).all.Nodup := by rw [drop_all]; exact List.filter_sublist.nodup nd1
          obtain ⟨r3, e3, hR3⟩ := hR2.frontA (by omega) o64 (.inl (by rw [fl_all]; exact oall2)) (j := 1) (by omega)
          have pm := perm_mem (fr1_all (y.drop o) one) oall2 nd2
          rw [e2, Option.bind_some, show ring_Rings_Front r2 1 one = _ from e3, Option.bind_some]
          refine ⟨_, rfl, ⟨h.n1, hn, rfl, rfl, ok', ⟨r3, rfl, hR3⟩, ?_, ?_, ?_⟩, .inr ⟨o, rfl, by rw [← hal]; exact oin, ?_⟩⟩
          · have g1 : ((y.drop o).fr1 one).b.length ≤ (TL.rm y.b o).length + 1 := by
              show (one :: TL.rm (TL.rm y.b o) one).length ≤ _
              have := rm_le (TL.rm y.b o) one; simp; omega
            have g2 : ((y.drop o).fr1 one).c.length ≤ (TL.rm y.c o).length := rm_le _ _
            have g3 : (TL.rm y.b o).length + (TL.rm y.c o).length + 1 ≤ y.b.length + y.c.length := by
              have := rm_le y.b o; have := rm_le y.c o
              rcases omem with q | q
              · have := rm_len d2 q; omega
              · have := rm_len d3 q.2; omega
            dsimp only
            omega
          · show (TL.rm (TL.rm y.a o) one).length ≤ _
            have : TL.rm y.a o = y.a := rm_no (fun q => by rcases omem with z | z; exact (d4 o q).1 z; exact (d4 o q).2 z.2)
            rw [this]; omega
          · show (TL.rm (TL.rm y.c o) one).length ≤ _
            have := rm_le (TL.rm y.c o) one; have := rm_le y.c o; omega
          · rw [← hal, ← drop_all]; exact pm
        · rw [if_neg (by simpa using c3), if_neg c3]
          exact ⟨tD, eD, hD, .inr ⟨one, rfl, by rw [← hal]; exact oall, pD⟩⟩
end
end Go.Proofs.YtpanhdnglicknaaGreat.Pure
