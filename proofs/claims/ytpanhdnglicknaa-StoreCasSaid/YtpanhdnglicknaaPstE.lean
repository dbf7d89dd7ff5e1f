import Derived.Test.YtpanhdnglicknaaW2
import Derived.Test.YtpanhdnglicknaaPskZ
import Derived.Test.YtpanhdnglicknaaPskP
import Derived.Test.YtpanhdnglicknaaPringA
import Derived.Test.YtpanhdnglicknaaPringB
import Derived.Test.YtpanhdnglicknaaPringC
import Derived.Test.YtpanhdnglicknaaPringD
import Derived.Test.YtpanhdnglicknaaPringE
import Derived.Test.YtpanhdnglicknaaPringF
import Derived.Test.YtpanhdnglicknaaPtinyZ
import Derived.Test.YtpanhdnglicknaaPtinyB
import Derived.Test.YtpanhdnglicknaaPtinyC
import Derived.Test.YtpanhdnglicknaaPtinyY
import Derived.Test.YtpanhdnglicknaaParcA
import Derived.Test.YtpanhdnglicknaaParcB
import Derived.Test.YtpanhdnglicknaaPpolA
import Derived.Test.YtpanhdnglicknaaPstA
import Derived.Test.YtpanhdnglicknaaPstB
import Derived.Test.YtpanhdnglicknaaPstC
set_option linter.unusedVariables false
set_option linter.unusedSectionVars false
set_option linter.unusedSimpArgs false
set_option maxRecDepth 100000
set_option maxHeartbeats 8000000

namespace Go.Proofs.Ytpanhdnglicknaa.Pure
open Go Go.Proofs.Ytpanhdnglicknaa.Hw Go.Proofs.Ytpanhdnglicknaa

theorem endv_n (now ttl : UInt64) (ht : 0 < ttl.toNat) : (endv now ttl).toNat = if now.toNat < 18446744073709551615 then min (now.toNat + ttl.toNat) 18446744073709551615 else 0 := by
  have h1 : (0 : UInt64).toNat = 0 := rfl
  have h2 : (18446744073709551615 : UInt64).toNat = 18446744073709551615 := rfl
  have hl := now.toNat_lt
  have hl2 := ttl.toNat_lt
  unfold endv
  by_cases c : now.toNat < 18446744073709551615
  · rw [if_pos c, if_pos (by simp only [Bool.and_eq_true, decide_eq_true_eq, UInt64.lt_iff_toNat_lt]; omega)]
    have hs : (18446744073709551615 - now).toNat = 18446744073709551615 - now.toNat := by
      rw [UInt64.toNat_sub_of_le _ _ (by rw [UInt64.le_iff_toNat_le]; omega)]; omega
    by_cases c2 : (18446744073709551615 - now) < ttl
    · rw [if_pos c2, UInt64.toNat_add, hs]
      rw [UInt64.lt_iff_toNat_lt, hs] at c2
      omega
    · rw [if_neg c2]
      rw [UInt64.lt_iff_toNat_lt, hs] at c2
      rw [UInt64.toNat_add]; omega
  · rw [if_neg c, if_neg (by simp only [Bool.and_eq_true, decide_eq_true_eq, UInt64.lt_iff_toNat_lt]; omega)]
    rfl
theorem chk_put {k v : Str} {T : UInt64} (h1 : k ≠ []) (h2 : k.length ≤ 64) (h3 : v.length ≤ 4096) (h4 : T.toNat ≤ 1073741824) : op_Check ⟨2, k, v, T, 0⟩ = true := by
  have c : (1073741824 : UInt64).toNat = 1073741824 := rfl
  unfold op_Check
  dsimp only
  rw [if_neg (by simp only [Bool.or_eq_true, decide_eq_true_eq, UInt64.lt_iff_toNat_lt, c]; omega), lt_eq]
  simp [h1]
theorem chk_get {k : Str} (h1 : k ≠ []) (h2 : k.length ≤ 64) : op_Check ⟨1, k, [], 0, 0⟩ = true := by
  unfold op_Check
  dsimp only
  rw [if_neg (by simp; omega), lt_eq]
  simp [h1]
theorem StoreEnds (a b d : UInt64) : hawthornlaw12_StoreEnds a b d = some true := by
  obtain ⟨p0, e0, h0⟩ := new_s 2 (.inr rfl) 4 1000 3 (by omega) (by omega) (by omega) (by omega)
  have hT : (1 + b % 1073741824).toNat = 1 + b.toNat % 1073741824 := by
    rw [UInt64.toNat_add, UInt64.toNat_mod]
    have : (1073741824 : UInt64).toNat = 1073741824 := rfl
    have h1 : (1 : UInt64).toNat = 1 := rfl
    rw [this, h1]; omega
  unfold hawthornlaw12_StoreEnds
  generalize 1 + b % 1073741824 = T at hT ⊢
  have hT1 : 1 ≤ T.toNat ∧ T.toNat ≤ 1073741824 := by omega
  clear hT
  rw [show store_New (⟨2, 4, 1000, 3⟩ : api_Config) = _ from e0, Option.bind_some, om_some]
  -- the value is laid
  obtain ⟨t1, p1, K1, e1, ht1, hp1, _, _, hK1, hm1, _⟩ := st_apply (c := ⟨((2 : Nat) : Int), ((4 : Nat) : Int), ((1000 : Nat) : Int), 3⟩) (ss := []) (sq := 0) (nw := 0) (vr := 0) (ty := ⟨0, 0⟩) tb_new h0 (x := ⟨1, a, 1, 1, ⟨2, [107], [118], T, 0⟩⟩) (chk_put (by simp) (by simp) (by simp) hT1.2) (by dsimp only; decide)
  have z1 : t1.m = [] := List.eq_nil_iff_forall_not_mem.2 fun q hq => by have := hm1 q hq; cases this
  have z2 : K1 = [] := List.eq_nil_iff_forall_not_mem.2 fun q hq => by have := ((hK1 q).1 hq).1; cases this
  subst z2
  have n0 : mx 0 a = a := by apply UInt64.toNat_inj.1; rw [mx_n]; have : (0 : UInt64).toNat = 0 := rfl; omega
  dsimp only at e1
  rw [n0] at e1
  have r1 := rest_do (s := ⟨⟨((2 : Nat) : Int), ((4 : Nat) : Int), ((1000 : Nat) : Int), 3⟩, some t1, some p1, [], 0 + 1, a, 0, ⟨0, 0⟩⟩) (x := ⟨1, a, 1, 1, ⟨2, [107], [118], T, 0⟩⟩) (by dsimp only; decide) (.inl ⟨rfl, by simp⟩)
  have d1 := do_put (c := ⟨((2 : Nat) : Int), ((4 : Nat) : Int), ((1000 : Nat) : Int), 3⟩) (t := t1) (p := p1) (ss := []) (sq := 0 + 1) (nw := a) (vr := 0) (ty := ⟨0, 0⟩) ⟨2, [107], [118], T, 0⟩ (by dsimp only; decide)
  rcases st_put (n := 4) (B := 1000) (c := ⟨((2 : Nat) : Int), ((4 : Nat) : Int), ((1000 : Nat) : Int), 3⟩) (ss := []) (sq := 0 + 1) (nw := a) (vr := 0) (ty := ⟨0, 0⟩) (o := ⟨2, [107], [118], T, 0⟩) rfl (by omega) ht1 hp1 (by simp) (by simp) with ⟨q, _⟩ | ⟨_, t2, p2, K2, e2, ht2, hp2, _, _, hfit⟩
  · simp at q
  obtain ⟨f1, f2⟩ := hfit (.inr (by simp)) (by rw [z1]; simp [mdel, mput, msz, esz])
  rw [z1] at f1
  have f1 : t2.m = [([107], ⟨[107], [118], 0 + 1, endv a T⟩)] := f1
  dsimp only at r1
  rw [e1, r1, d1, e2, Option.bind_some, Option.bind_some]
  dsimp only
  -- it is asked for
  obtain ⟨t3, p3, K3, e3, ht3, hp3, g1, g2, _⟩ := st_apply (c := ⟨((2 : Nat) : Int), ((4 : Nat) : Int), ((1000 : Nat) : Int), 3⟩) (ss := mput [] 1 (⟨1, ⟨0, [], 0 + 1⟩⟩ : store_last)) (sq := 0 + 1) (nw := a) (vr := 0 + 1) (ty := ⟨0, 0⟩) ht2 hp2 (x := ⟨2, d, 1, 2, ⟨1, [107], [], 0, 0⟩⟩) (chk_get (by simp) (by simp)) (by dsimp only; decide)
  dsimp only at e3 g1 g2
  have r3 := rest_do (s := ⟨⟨((2 : Nat) : Int), ((4 : Nat) : Int), ((1000 : Nat) : Int), 3⟩, some t3, some p3, mput [] 1 (⟨1, ⟨0, [], 0 + 1⟩⟩ : store_last), 0 + 1 + 1, mx a d, 0 + 1, ⟨0, 0⟩⟩) (x := ⟨2, d, 1, 2, ⟨1, [107], [], 0, 0⟩⟩) (by dsimp only; decide) (.inr ⟨_, rfl, by dsimp only; decide⟩)
  dsimp only at r3
  rw [e3, r3]
  have hg : mget t2.m [107] = some ⟨[107], [118], 0 + 1, endv a T⟩ := by rw [f1]; rfl
  have hv := endv_n a T (by omega)
  have hmx := mx_n a d
  have la := a.toNat_lt
  have ld := d.toNat_lt
  have c18 : (18446744073709551615 : UInt64).toNat = 18446744073709551615 := rfl
  have hp42 : (if decide (a < d) = true then some (d - a) else some 0) = some (if a < d then d - a else 0) := by
    by_cases c : a < d <;> simp [c]
  have hpn : (if a < d then d - a else (0 : UInt64)).toNat = d.toNat - a.toNat := by
    by_cases c : a < d
    · rw [if_pos c]
      rw [UInt64.lt_iff_toNat_lt] at c
      rw [UInt64.toNat_sub_of_le _ _ (by rw [UInt64.le_iff_toNat_le]; omega)]
    · rw [if_neg c]
      rw [UInt64.lt_iff_toNat_lt] at c
      show 0 = _; omega
  have heq : ((a == (18446744073709551615 : UInt64)) = true) ↔ a.toNat = 18446744073709551615 := by
    rw [beq_iff_eq, ← c18]; exact UInt64.toNat_inj.symm
  by_cases hE : endsAt t2.m (mx a d) [107]
  · have hno := g1 _ hE
    obtain ⟨e, he1, he2, he3⟩ := hE
    rw [hg] at he1
    cases he1
    dsimp only at he2 he3
    obtain ⟨p4, e4, _⟩ := do_miss (c := ⟨((2 : Nat) : Int), ((4 : Nat) : Int), ((1000 : Nat) : Int), 3⟩) (ss := mput [] 1 (⟨1, ⟨0, [], 0 + 1⟩⟩ : store_last)) (sq := 0 + 1 + 1) (nw := mx a d) (vr := 0 + 1) (ty := ⟨0, 0⟩) ht3 hp3 (o := ⟨1, [107], [], 0, 0⟩) rfl (by simp) hno
    rw [e4, Option.bind_some, Option.bind_some, awake12, Option.bind_some, if_neg (by dsimp only; decide), hp42, Option.bind_some]
    generalize (if a < d then d - a else (0 : UInt64)) = P at hpn
    have : (decide (P < T) && (decide (d < 18446744073709551615) || (a == 18446744073709551615))) = false := by
      rw [Bool.eq_false_iff]
      intro z
      simp only [Bool.and_eq_true, Bool.or_eq_true, decide_eq_true_eq, UInt64.lt_iff_toNat_lt, heq, c18] at z
      rw [hmx] at he3
      split at hv <;> omega
    dsimp only
    rw [this]; rfl
  · have hyes := g2 _ hE
    rw [hg] at hyes
    obtain ⟨p4, e4, _⟩ := do_hit (c := ⟨((2 : Nat) : Int), ((4 : Nat) : Int), ((1000 : Nat) : Int), 3⟩) (ss := mput [] 1 (⟨1, ⟨0, [], 0 + 1⟩⟩ : store_last)) (sq := 0 + 1 + 1) (nw := mx a d) (vr := 0 + 1) (ty := ⟨0, 0⟩) ht3 hp3 (o := ⟨1, [107], [], 0, 0⟩) rfl hyes
    rw [e4, Option.bind_some, Option.bind_some, awake12, Option.bind_some, if_neg (by dsimp only; decide), hp42, Option.bind_some]
    generalize (if a < d then d - a else (0 : UInt64)) = P at hpn
    have hE2 : (endv a T).toNat = 0 ∨ (mx a d).toNat < (endv a T).toNat := by
      rcases Nat.eq_zero_or_pos (endv a T).toNat with q | q
      · exact .inl q
      · right
        rcases Nat.lt_or_ge (mx a d).toNat (endv a T).toNat with w | w
        · exact w
        · exact absurd ⟨_, hg, by dsimp only; omega, w⟩ hE
    have : (decide (P < T) && (decide (d < 18446744073709551615) || (a == 18446744073709551615))) = true := by
      simp only [Bool.and_eq_true, Bool.or_eq_true, decide_eq_true_eq, UInt64.lt_iff_toNat_lt, heq, c18]
      rw [hmx] at hE2
      split at hv <;> omega
    dsimp only
    rw [this]; rfl
end Go.Proofs.Ytpanhdnglicknaa.Pure
