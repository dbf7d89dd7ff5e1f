import Derived.Test.YtpanhdnglicknaaGreatW3
import Derived.Test.YtpanhdnglicknaaGreatPskZ
import Derived.Test.YtpanhdnglicknaaGreatPskP
import Derived.Test.YtpanhdnglicknaaGreatPringA
import Derived.Test.YtpanhdnglicknaaGreatPringB
import Derived.Test.YtpanhdnglicknaaGreatPringC
import Derived.Test.YtpanhdnglicknaaGreatPringD
import Derived.Test.YtpanhdnglicknaaGreatPringE
import Derived.Test.YtpanhdnglicknaaGreatPringF
set_option linter.unusedVariables false
set_option linter.unusedSectionVars false
set_option linter.unusedSimpArgs false
set_option maxRecDepth 100000
set_option maxHeartbeats 8000000

namespace Go.Proofs.YtpanhdnglicknaaGreat.Pure
open Go Go.Proofs.YtpanhdnglicknaaGreat.Hw Go.Proofs.YtpanhdnglicknaaGreat

/-! three lists of keys -/
structure TL where
  a : List Str
  b : List Str
  c : List Str
namespace TL
abbrev L (x : TL) : List (List Str) := [x.a, x.b, x.c]
def all (x : TL) : List Str := x.a ++ (x.b ++ x.c)
def rm (l : List Str) (k : Str) : List Str := l.filter fun x => !(x == k)
def drop (x : TL) (k : Str) : TL := ⟨rm x.a k, rm x.b k, rm x.c k⟩
def fr0 (x : TL) (k : Str) : TL := ⟨k :: (x.drop k).a, (x.drop k).b, (x.drop k).c⟩
def fr1 (x : TL) (k : Str) : TL := ⟨(x.drop k).a, k :: (x.drop k).b, (x.drop k).c⟩
def fr2 (x : TL) (k : Str) : TL := ⟨(x.drop k).a, (x.drop k).b, k :: (x.drop k).c⟩
def n (x : TL) : Nat := x.a.length + x.b.length + x.c.length
end TL
theorem fl_all (x : TL) : x.L.flatten = x.all := by simp [TL.L, TL.all]
theorem all_n (x : TL) : x.all.length = x.n := by unfold TL.all TL.n; simp; omega
/-- How many the window may have, and the safe ones. -/
def Wn (n : Nat) : Nat := max 1 (n / 8)
def Sf (n : Nat) : Nat := (n - Wn n) * 4 / 5
def wd (n : Nat) : Nat := min (8 * n) 4096
theorem Wn_le {n : Nat} (h : 1 ≤ n) : Wn n ≤ n := by unfold Wn; omega
theorem parts_c (n : Nat) (h : n ≤ 1000) (h1 : 1 ≤ n) : tiny_Parts (n : Int) = ⟨(Wn n : Int), (Sf n : Int)⟩ := by
  have e1 : i64 ((n : Int).tdiv 8) = ((n / 8 : Nat) : Int) := by
    rw [show (n : Int).tdiv 8 = ((n / 8 : Nat) : Int) by rw [Int.tdiv_eq_ediv_of_nonneg (by omega)]; omega, i64s _ (by omega) (by omega)]
  have e2 : (if (1 : Int) < ((n / 8 : Nat) : Int) then ((n / 8 : Nat) : Int) else 1) = (Wn n : Int) := by
    unfold Wn; split <;> omega
  have hw := Wn_le h1
  have e3 : i64 ((n : Int) - (Wn n : Int)) = ((n - Wn n : Nat) : Int) := by rw [i64s _ (by omega) (by omega)]; omega
  have e4 : i64 (((n - Wn n : Nat) : Int) * 4) = (((n - Wn n) * 4 : Nat) : Int) := by rw [i64s _ (by omega) (by omega)]; omega
  have e5 : (((n - Wn n) * 4 : Nat) : Int).tdiv 5 = ((Sf n : Nat) : Int) := by
    unfold Sf
    rw [Int.tdiv_eq_ediv_of_nonneg (by omega)]; omega
  have e6 : i64 ((Sf n : Nat) : Int) = (Sf n : Int) := by
    have : Sf n ≤ 1000 := by unfold Sf; omega
    rw [i64s _ (by omega) (by omega)]
  unfold tiny_Parts
  rw [e1, e2, e3, e4, e5, e6]
theorem wide_c (n : Nat) (h : n ≤ 1000) : tiny_wide (n : Int) = (wd n : Int) := by
  unfold tiny_wide wd
  rw [i64s _ (by omega) (by omega)]
  split <;> omega

/-! how often a key was seen, and how it is noted -/
open Classical in
noncomputable def plc (w : Nat) (seed : UInt64) (key : Str) : Ps := if h : ∃ p, Pk w seed key p then h.choose else ⟨0, 0, 0, 0, 0⟩
theorem plc_ok {w : Nat} {seed : UInt64} {key : Str} (h1 : 1 ≤ w) (h2 : w ≤ 4096) (hk : key.length ≤ 100000) : Pk w seed key (plc w seed key) := by
  have h := pk_ex w seed key h1 h2 hk
  unfold plc
  rw [dif_pos h]
  exact h.choose_spec
noncomputable def ad (w : Nat) (seed : UInt64) (s : Sk) (key : Str) : Sk := s.put w (plc w seed key)
noncomputable def sn (w : Nat) (seed : UInt64) (s : Sk) (key : Str) : Nat := s.seen (plc w seed key)

/-! the code's -/
structure TR (n : Nat) (seed : UInt64) (t : tiny_Tiny) (s : Sk) (x : TL) : Prop where
  n1 : 1 ≤ n
  n2 : n ≤ 1000
  ms : t.most = (n : Int)
  sk : t.s = some (s.C (wd n) seed)
  ok : s.ok (wd n)
  rg : ∃ r, t.r = some r ∧ RR 3 (n + 1) r x.L
  bb : x.b.length + x.c.length + Wn n ≤ n
  ba : x.a.length ≤ Wn n
  bc : x.c.length ≤ Sf n
theorem TR.bn {n : Nat} {seed : UInt64} {t : tiny_Tiny} {s : Sk} {x : TL} (h : TR n seed t s x) : x.n ≤ n := by have := h.bb; have := h.ba; unfold TL.n; omega
theorem frL0 (x : TL) (k : Str) : frK x.L 0 k = (x.fr0 k).L := rfl
theorem frL1 (x : TL) (k : Str) : frK x.L 1 k = (x.fr1 k).L := rfl
theorem frL2 (x : TL) (k : Str) : frK x.L 2 k = (x.fr2 k).L := rfl
theorem rmL (x : TL) (k : Str) : rmK x.L k = (x.drop k).L := rfl
section
variable {k m : Nat} {r : ring_Rings} {L : List (List Str)}
theorem RR.frontA (h : RR k m r L) (hm : m ≤ 4096) {key : Str} (h64 : key.length ≤ 64) (hr : key ∈ L.flatten ∨ L.flatten.length < m) {j : Nat} (hj : j < k) : ∃ r', ring_Rings_Front r (j : Int) key = some (true, r') ∧ RR k m r' (frK L j key) := by
  by_cases hk : key ∈ L.flatten
  · exact h.front hm hk hj
  · have e : frK L j key = L.set j (key :: L.getD j []) := by unfold frK; rw [rmK_no hk]
    rw [e]
    exact h.front_new hm hk h64 (hr.resolve_left hk) hj
theorem RR.dropA (h : RR k m r L) (hm : m ≤ 4096) (hk : k ≤ 8) (key : Str) : ∃ r', ring_Rings_Drop r key = some (decide (key ∈ L.flatten), r') ∧ RR k m r' (rmK L key) := by
  by_cases hk2 : key ∈ L.flatten
  · obtain ⟨r', e, q⟩ := h.drop hm hk hk2
    exact ⟨r', by rw [e]; simp [hk2], q⟩
  · exact ⟨r, by rw [h.drop_no hk2]; simp [hk2], by rw [rmK_no hk2]; exact h⟩
end
theorem rm_mem {l : List Str} {k x : Str} : x ∈ TL.rm l k ↔ x ∈ l ∧ x ≠ k := by unfold TL.rm; simp
theorem rm_no {l : List Str} {k : Str} (h : k ∉ l) : TL.rm l k = l := filter_no h
theorem rm_le (l : List Str) (k : Str) : (TL.rm l k).length ≤ l.length := List.length_filter_le _ _
theorem rm_perm {l : List Str} {k : Str} (hn : l.Nodup) (h : k ∈ l) : l.Perm (k :: TL.rm l k) := by
  obtain ⟨A, B, rfl⟩ := List.append_of_mem h
  have pm : (A ++ k :: B).Perm (k :: (A ++ B)) := List.perm_middle
  have hk := (List.nodup_cons.1 (pm.nodup_iff.1 hn)).1
  simp only [List.mem_append, not_or] at hk
  have e : TL.rm (A ++ k :: B) k = A ++ B := by
    unfold TL.rm
    rw [List.filter_append, List.filter_cons, if_neg (by simp), filter_no hk.1, filter_no hk.2]
  rw [e]; exact pm
theorem rm_len {l : List Str} {k : Str} (hn : l.Nodup) (h : k ∈ l) : (TL.rm l k).length + 1 = l.length := by
  have := (rm_perm hn h).length_eq; simpa using this.symm
theorem rm_app (l m : List Str) (k : Str) : TL.rm (l ++ m) k = TL.rm l k ++ TL.rm m k := by unfold TL.rm; rw [List.filter_append]
theorem drop_all (x : TL) (k : Str) : (x.drop k).all = TL.rm x.all k := by unfold TL.drop TL.all; rw [rm_app, rm_app]
theorem fr0_all (x : TL) (k : Str) : (x.fr0 k).all.Perm (k :: TL.rm x.all k) := by rw [← drop_all]; exact List.Perm.refl _
theorem fr1_all (x : TL) (k : Str) : (x.fr1 k).all.Perm (k :: TL.rm x.all k) := by
  rw [← drop_all]; unfold TL.fr1 TL.all
  refine List.perm_iff_count.2 fun y => ?_
  simp only [List.count_append, List.count_cons]; omega
theorem fr2_all (x : TL) (k : Str) : (x.fr2 k).all.Perm (k :: TL.rm x.all k) := by
  rw [← drop_all]; unfold TL.fr2 TL.all
  refine List.perm_iff_count.2 fun y => ?_
  simp only [List.count_append, List.count_cons]; omega
theorem perm_mem {l m : List Str} {k : Str} (hp : m.Perm (k :: TL.rm l k)) (hk : k ∈ l) (hn : l.Nodup) : m.Perm l := hp.trans (rm_perm hn hk).symm

section
variable {n : Nat} {seed : UInt64} {t : tiny_Tiny} {s : Sk} {x : TL}
theorem TR.nd (h : TR n seed t s x) : x.all.Nodup := by
  obtain ⟨r, _, hr⟩ := h.rg; have := hr.nd; rw [fl_all] at this; exact this
theorem TR.kl (h : TR n seed t s x) : ∀ k ∈ x.all, k.length ≤ 64 := by
  obtain ⟨r, _, hr⟩ := h.rg; have := hr.kl; rw [fl_all] at this; exact this
theorem TR.w1 (h : TR n seed t s x) : 1 ≤ wd n := by have := h.n1; unfold wd; omega
theorem TR.w2 (_ : TR n seed t s x) : wd n ≤ 4096 := by unfold wd; omega
theorem TR.Has (h : TR n seed t s x) (key : Str) : tiny_Tiny_Has t key = some (decide (key ∈ x.all)) := by
  obtain ⟨r, hr, hR⟩ := h.rg
  unfold tiny_Tiny_Has
  rw [hr, om_some]
  by_cases hk : key ∈ x.L.flatten
  · obtain ⟨i, l, hl, hx⟩ := mem_ix hk
    rw [hR.in_some hl hx, Option.bind_some]; rw [fl_all] at hk; simp [hk]
  · rw [hR.in_none hk, Option.bind_some]; rw [fl_all] at hk; simp [hk]
theorem TR.Len (h : TR n seed t s x) : tiny_Tiny_Len t = some (x.n : Int) := by
  obtain ⟨r, hr, hR⟩ := h.rg
  have := h.bn
  have := h.n2
  unfold tiny_Tiny_Len
  unfold TL.n at *
  have l0 := hR.Len (i := 0) (l := x.a) rfl
  have l1 := hR.Len (i := 1) (l := x.b) rfl
  have l2 := hR.Len (i := 2) (l := x.c) rfl
  rw [hr, om_some, show ring_Rings_Len r 0 = _ from l0, Option.bind_some, show ring_Rings_Len r 1 = _ from l1, Option.bind_some, show ring_Rings_Len r 2 = _ from l2, Option.bind_some, i64s ((x.a.length : Int) + (x.b.length : Int)) (by omega) (by omega), i64s _ (by omega) (by omega)]
  congr 1
end
/-- A key that is kept was asked for. -/
def tch (n : Nat) (x : TL) (k : Str) : TL :=
  if k ∈ x.a then x.fr0 k else if Sf n < (x.fr2 k).c.length then (x.fr2 k).fr1 ((x.fr2 k).c.getLastD []) else x.fr2 k
/-- The last of those that are not in the window. -/
def lst (x : TL) : Option Str := match x.b.getLast? with | some k => some k | none => x.c.getLast?
/-- A key that is not kept is to be kept. -/
noncomputable def ins (n : Nat) (seed : UInt64) (s : Sk) (x : TL) (k : Str) : TL × List Str :=
  if (x.fr0 k).a.length ≤ Wn n then (x.fr0 k, []) else
    if (x.fr0 k).n ≤ n then ((x.fr0 k).fr1 ((x.fr0 k).a.getLastD []), []) else
      match lst (x.fr0 k) with
      | some o => if sn (wd n) seed s o < sn (wd n) seed s ((x.fr0 k).a.getLastD []) then (((x.fr0 k).drop o).fr1 ((x.fr0 k).a.getLastD []), [o]) else ((x.fr0 k).drop ((x.fr0 k).a.getLastD []), [(x.fr0 k).a.getLastD []])
      | none => ((x.fr0 k).drop ((x.fr0 k).a.getLastD []), [(x.fr0 k).a.getLastD []])
end Go.Proofs.YtpanhdnglicknaaGreat.Pure
