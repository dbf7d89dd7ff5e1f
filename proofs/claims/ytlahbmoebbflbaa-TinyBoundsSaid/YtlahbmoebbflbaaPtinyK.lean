import Derived.Test.YtlahbmoebbflbaaW6
import Derived.Test.YtlahbmoebbflbaaPmixA
import Derived.Test.YtlahbmoebbflbaaPskA
import Derived.Test.YtlahbmoebbflbaaPskB
import Derived.Test.YtlahbmoebbflbaaPskC
import Derived.Test.YtlahbmoebbflbaaPskP
import Derived.Test.YtlahbmoebbflbaaPringA
import Derived.Test.YtlahbmoebbflbaaPringB
import Derived.Test.YtlahbmoebbflbaaPringC
import Derived.Test.YtlahbmoebbflbaaPringD
import Derived.Test.YtlahbmoebbflbaaPringE
import Derived.Test.YtlahbmoebbflbaaPringF
import Derived.Test.YtlahbmoebbflbaaPtinyA
import Derived.Test.YtlahbmoebbflbaaPtinyB
import Derived.Test.YtlahbmoebbflbaaPtinyC
set_option linter.unusedVariables false
set_option linter.unusedSectionVars false
set_option linter.unusedSimpArgs false
set_option maxRecDepth 100000
set_option maxHeartbeats 8000000

namespace Go.Proofs.Ytlahbmoebbflbaa.Pure
open Go Go.Proofs.Ytlahbmoebbflbaa.Hw Go.Proofs.Ytlahbmoebbflbaa

theorem awake8 : hawthornlaw08_awake = some true := by decide +kernel
theorem few8 (x : Str) : ∃ r, hawthornlaw08_few x = some r ∧ r.length ≤ 80 := by
  unfold hawthornlaw08_few
  by_cases h : 80 < x.length
  · have e : decide ((80 : Int) < (x.length : Int)) = true := by simp; omega
    rw [if_pos e]
    unfold sl
    rw [if_pos (by omega), Option.bind_some]
    exact ⟨_, rfl, by simp; omega⟩
  · have e : ¬ decide ((80 : Int) < (x.length : Int)) = true := by simp; omega
    rw [if_neg e]
    exact ⟨_, rfl, by omega⟩
theorem i_add1 {j : Nat} (h : j < 4294967296) : i64 ((j : Int) + 1) = ((j + 1 : Nat) : Int) := by rw [i64s] <;> omega
theorem drop_at {α : Type} {l : List α} {j : Nat} (h : j < l.length) : l.drop j = l[j] :: l.drop (j + 1) := by rw [List.drop_eq_getElem_cons h]
theorem keeps_l73 (have_ : List Str) (k : Str) (hl : have_.length ≤ 1000) : ∀ (f j : Nat) (c : List Str), f = have_.length - j + 1 → j ≤ have_.length → c.length + (have_.length - j) ≤ 1000 →
    hawthornlaw08_TinyKeeps_l3 have_ k f c (j : Int) = some (c ++ TL.rm (have_.drop j) k) := by
  intro f
  induction f with
  | zero => intro j c h; omega
  | succ f ih =>
    intro j c hf hj hc
    unfold hawthornlaw08_TinyKeeps_l3
    by_cases h : j < have_.length
    · rw [if_pos (by simpa using h), gN h, Option.bind_some, i_add1 (by omega), drop_at h]
      by_cases e : (have_[j] != k) = true
      · rw [if_pos e, apd_i _ _ _ (by decide) (by simp; omega), Option.bind_some, Option.bind_some, ih (j + 1) _ (by omega) (by omega) (by simp; omega)]
        unfold TL.rm
        rw [List.filter_cons, if_pos (by simpa using e)]; simp
      · rw [if_neg e, Option.bind_some, ih (j + 1) _ (by omega) (by omega) (by omega)]
        unfold TL.rm
        rw [List.filter_cons, if_neg (by simpa using e)]
    · rw [if_neg (by simpa using h), List.drop_eq_nil_of_le (by omega)]; simp [TL.rm]
theorem keeps_l72a (l : List Str) (t : tiny_Tiny) (hl : l.length ≤ 1000) : ∀ (f j : Nat) (c : List Str), f = l.length - j + 1 → j ≤ l.length → c.length + (l.length - j) ≤ 1000 →
    hawthornlaw08_TinyKeeps_l2 l ([], t) f c (j : Int) = some (c ++ l.drop j) := by
  intro f
  induction f with
  | zero => intro j c h; omega
  | succ f ih =>
    intro j c hf hj hc
    unfold hawthornlaw08_TinyKeeps_l2
    by_cases h : j < l.length
    · rw [if_pos (by simpa using h), if_pos (by rfl), Option.bind_some, if_pos rfl, gN h, Option.bind_some, i_add1 (by omega), drop_at h, apd_i _ _ _ (by decide) (by simp; omega), Option.bind_some, Option.bind_some, ih (j + 1) _ (by omega) (by omega) (by simp; omega)]
      simp
    · rw [if_neg (by simpa using h), List.drop_eq_nil_of_le (by omega)]; simp
theorem keeps_l72b (l : List Str) (o : Str) (t : tiny_Tiny) (hl : l.length ≤ 1000) : ∀ (f j : Nat) (c : List Str), f = l.length - j + 1 → j ≤ l.length → c.length + (l.length - j) ≤ 1000 →
    hawthornlaw08_TinyKeeps_l2 l ([o], t) f c (j : Int) = some (c ++ TL.rm (l.drop j) o) := by
  intro f
  induction f with
  | zero => intro j c h; omega
  | succ f ih =>
    intro j c hf hj hc
    unfold hawthornlaw08_TinyKeeps_l2
    by_cases h : j < l.length
    · rw [if_pos (by simpa using h), if_neg (by simp), gN h, Option.bind_some, show gi [o] 0 = some o from rfl, Option.bind_some, Option.bind_some, i_add1 (by omega), drop_at h]
      by_cases e : (l[j] != o) = true
      · rw [if_pos e, Option.bind_some, apd_i _ _ _ (by decide) (by simp; omega), Option.bind_some, Option.bind_some, ih (j + 1) _ (by omega) (by omega) (by simp; omega)]
        unfold TL.rm
        rw [List.filter_cons, if_pos (by simpa using e)]; simp
      · rw [if_neg e, Option.bind_some, ih (j + 1) _ (by omega) (by omega) (by omega)]
        unfold TL.rm
        rw [List.filter_cons, if_neg (by simpa using e)]
    · rw [if_neg (by simpa using h), List.drop_eq_nil_of_le (by omega)]; simp [TL.rm]
theorem keeps_l71 {n : Nat} {seed : UInt64} {t : tiny_Tiny} {s : Sk} {x : TL} (h : TR n seed t s x) (l g : List Str) (hl : l.length ≤ 1000) (hm : ∀ k ∈ l, k ∈ x.all) : ∀ (f j : Nat), f = l.length - j + 1 → j ≤ l.length →
    hawthornlaw08_TinyKeeps_l1 l (g, t) f (j : Int) = some (.inl ()) := by
  intro f
  induction f with
  | zero => intro j h; omega
  | succ f ih =>
    intro j hf hj
    unfold hawthornlaw08_TinyKeeps_l1
    by_cases q : j < l.length
    · rw [if_pos (by simpa using q), gN q, Option.bind_some, h.Has, Option.bind_some, if_neg (by simp [hm _ (List.getElem_mem q)]), i_add1 (by omega), ih (j + 1) (by omega) (by omega)]
    · rw [if_neg (by simpa using q)]
theorem rm_perm2 {l m : List Str} (h : l.Perm m) (k : Str) : (TL.rm l k).Perm (TL.rm m k) := h.filter _
theorem keeps_loop (l : List Str) (n : Nat) (hn : n ≤ 16) : ∀ (f i : Nat) (t : tiny_Tiny) (s : Sk) (x : TL) (hv : List Str), f = l.length - i + 1 → i ≤ l.length → i ≤ 100 → TR n 9 t s x → hv.Perm x.all →
    hawthornlaw08_TinyKeeps_l0 l f (some t) hv (i : Int) = some (.inl ()) := by
  intro f
  induction f with
  | zero => intro i t s x hv h; omega
  | succ f ih =>
    intro i t s x hv hf hi hi2 h hp
    unfold hawthornlaw08_TinyKeeps_l0
    by_cases hc : i < l.length ∧ i < 100
    · rw [if_pos (by simp; omega), gN hc.1, Option.bind_some]
      obtain ⟨k, hk, hk2⟩ := few8 l[i]
      rw [hk, Option.bind_some, i_add1 (by omega)]
      by_cases h64 : 64 < k.length
      · rw [if_pos (by simp; omega), Option.bind_some]
        exact ih (i + 1) t s x hv (by omega) (by omega) (by omega) h hp
      · rw [if_neg (by simp; omega), om_some]
        have hbn := h.bn
        have hlen : hv.length ≤ 16 := by rw [hp.length_eq, all_n]; omega
        have hnd := hp.nodup_iff.2 h.nd
        have L73 : hawthornlaw08_TinyKeeps_l3 hv k (((hv.length : Int) - 0).toNat + 1) [] 0 = some (TL.rm hv k) := by
          have := keeps_l73 hv k (by omega) (((hv.length : Int) - 0).toNat + 1) 0 [] (by omega) (by omega) (by simp; omega)
          rw [List.nil_append, List.drop_zero] at this; exact this
        have hrl := rm_le hv k
        -- what the insertion comes to
        have INS : ∃ g t' s' x', tiny_Tiny_Insert t k = some (g, t') ∧ TR n 9 t' s' x' ∧ ((g = [] ∧ (TL.rm hv k ++ [k]).Perm x'.all) ∨ ∃ o, g = [o] ∧ (TL.rm (TL.rm hv k ++ [k]) o).Perm x'.all) := by
          by_cases hkx : k ∈ x.all
          · obtain ⟨t', e, h1, h2⟩ := h.insert_yes hkx
            refine ⟨_, t', _, _, e, h1, .inl ⟨rfl, ?_⟩⟩
            have : (TL.rm hv k ++ [k]).Perm hv := (List.perm_append_comm).trans (rm_perm hnd (hp.symm.subset hkx)).symm
            exact (this.trans hp).trans h2.symm
          · obtain ⟨t', e, h1, h2⟩ := h.insert_no hkx (by omega)
            have hkv : k ∉ hv := fun q => hkx (hp.subset q)
            have e2 : (TL.rm hv k ++ [k]).Perm (k :: x.all) := by rw [rm_no hkv]; exact List.perm_append_comm.trans (hp.cons k)
            refine ⟨_, t', _, _, e, h1, ?_⟩
            rcases h2 with ⟨e3, e4⟩ | ⟨o, e3, e4, e5⟩
            · exact .inl ⟨e3, e2.trans e4.symm⟩
            · exact .inr ⟨o, e3, (rm_perm2 e2 o).trans e5.symm⟩
        obtain ⟨g, t', s', x', e, h1, h2⟩ := INS
        rw [e, Option.bind_some]
        dsimp only
        rw [L73, Option.bind_some, apd_i _ _ _ (by decide) (by simp; omega), Option.bind_some]
        have L72 : ∃ hv', hawthornlaw08_TinyKeeps_l2 (TL.rm hv k ++ [k]) (g, t') ((((TL.rm hv k ++ [k]).length : Int) - 0).toNat + 1) [] 0 = some hv' ∧ hv'.Perm x'.all ∧ g.length ≤ 1 := by
          rcases h2 with ⟨rfl, e4⟩ | ⟨o, rfl, e4⟩
          · have := keeps_l72a (TL.rm hv k ++ [k]) t' (by simp; omega) ((((TL.rm hv k ++ [k]).length : Int) - 0).toNat + 1) 0 [] (by omega) (by omega) (by simp; omega)
            rw [List.nil_append, List.drop_zero] at this
            exact ⟨_, this, e4, by simp⟩
          · have := keeps_l72b (TL.rm hv k ++ [k]) o t' (by simp; omega) ((((TL.rm hv k ++ [k]).length : Int) - 0).toNat + 1) 0 [] (by omega) (by omega) (by simp; omega)
            rw [List.nil_append, List.drop_zero] at this
            exact ⟨_, this, e4, by simp⟩
        obtain ⟨hv', e2, hp', hg⟩ := L72
        have hbn' := h1.bn
        have hlen' : hv'.length = x'.n := by rw [hp'.length_eq, all_n]
        have L71 : hawthornlaw08_TinyKeeps_l1 hv' (g, t') (((hv'.length : Int) - 0).toNat + 1) 0 = some (.inl ()) := keeps_l71 h1 hv' g (by omega) (fun k hk => hp'.subset hk) _ 0 (by omega) (by omega)
        rw [e2, Option.bind_some, if_neg (by simp; omega), h1.Len, Option.bind_some, Option.bind_some, hlen', if_neg (by simp)]
        rw [hlen'] at L71
        rw [L71, Option.bind_some]
        dsimp only
        rw [Option.bind_some]
        exact ih (i + 1) t' s' x' hv' (by omega) (by omega) (by omega) h1 hp'
    · rw [if_neg (by simp; omega)]
theorem TinyKeeps (a : Int) (l : List Str) {p q : Prop} (_ : p) (_ : q) (_ : l.length * 16 ≤ reachBytes) : hawthornlaw08_TinyKeeps a l = some true := by
  obtain ⟨k, hk, hk2⟩ := iand_le a 15 (by decide)
  have hk : iand a 15 = (k : Int) := hk
  obtain ⟨t, s, e, h, _⟩ := new_t (1 + k) 9 (by omega) (by omega)
  have e1 : i64 (1 + iand a 15) = ((1 + k : Nat) : Int) := by rw [hk, i64s _ (by omega) (by omega)]; omega
  have L : hawthornlaw08_TinyKeeps_l0 l (((l.length : Int) - 0).toNat + 1) (some t) [] 0 = some (.inl ()) := keeps_loop l (1 + k) (by omega) _ 0 t s _ [] (by omega) (by omega) (by omega) h (List.Perm.refl _)
  unfold hawthornlaw08_TinyKeeps
  rw [e1, e, Option.bind_some, awake8, Option.bind_some, if_neg (by simp)]
  dsimp only
  rw [L, Option.bind_some]
theorem duel_l2 {a b : Int} (h : iand a 7 = iand b 7) : ∀ (f : Nat) (i : Int) (c : tiny_Tiny), hawthornlaw08_TinyDuel_l0 a f i c = hawthornlaw08_TinyDuel_l0 b f i c := by
  intro f
  induction f with
  | zero => intro i c; rfl
  | succ f ih =>
    intro i c
    unfold hawthornlaw08_TinyDuel_l0
    rw [h]
    simp only [ih]
theorem duel_l3 {a b : Int} (h : iand a 7 = iand b 7) : ∀ (f : Nat) (i m : Int) (s : Option sketch_Sketch) (r : Option ring_Rings), hawthornlaw08_TinyDuel_l1 a f i m s r = hawthornlaw08_TinyDuel_l1 b f i m s r := by
  intro f
  induction f with
  | zero => intro i m s r; rfl
  | succ f ih =>
    intro i m s r
    unfold hawthornlaw08_TinyDuel_l1
    rw [h]
    simp only [ih]
theorem duel_eq {a b a' b' : Int} (h : iand a 7 = iand a' 7) (h2 : iand b 7 = iand b' 7) : hawthornlaw08_TinyDuel a b = hawthornlaw08_TinyDuel a' b' := by
  unfold hawthornlaw08_TinyDuel
  rw [h, h2]
  simp only [duel_l2 h2, duel_l3 h]
theorem duel_all : ∀ i : Fin 8, ∀ j : Fin 8, hawthornlaw08_TinyDuel (i.val : Int) (j.val : Int) = some true := by decide +kernel
theorem iand_7 : ∀ i : Fin 8, iand (i.val : Int) 7 = (i.val : Int) := by decide +kernel
theorem TinyDuel (a b : Int) {p q : Prop} (_ : p) (_ : q) : hawthornlaw08_TinyDuel a b = some true := by
  obtain ⟨i, hi, hi2⟩ := iand_le a 7 (by decide)
  obtain ⟨j, hj, hj2⟩ := iand_le b 7 (by decide)
  rw [duel_eq (a' := (i : Int)) (b' := (j : Int)) ((show iand a 7 = (i : Int) from hi).trans (iand_7 ⟨i, by omega⟩).symm) ((show iand b 7 = (j : Int) from hj).trans (iand_7 ⟨j, by omega⟩).symm)]
  exact duel_all ⟨i, by omega⟩ ⟨j, by omega⟩
end Go.Proofs.Ytlahbmoebbflbaa.Pure
