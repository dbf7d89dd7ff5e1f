/-
  Shifts; the least and the greatest of two. Nothing of a program stands here.
-/
import Derived.Test.YtpanhdnglicknaaGreatHwK
set_option linter.unusedSimpArgs false
set_option linter.unusedVariables false
namespace Go.Proofs.YtpanhdnglicknaaGreat.Hw
open Go

section
variable {P : Program} {t : TypeId}
def shWl (a : UInt64) (n : Int) : UInt64 := UInt64.ofNat (a.toNat * 2 ^ min n.toNat 64)
def shWr (a : UInt64) (n : Int) : UInt64 := UInt64.ofNat (a.toNat / 2 ^ min n.toNat 64)
theorem wWl (a : UInt64) (n : Nat) : IntKind.wrap .u64 ((a.toNat : Int) * 2 ^ n) = ((UInt64.ofNat (a.toNat * 2 ^ n)).toNat : Int) := by
  have e : (a.toNat : Int) * 2 ^ n = ((a.toNat * 2 ^ n : Nat) : Int) := by simp
  rw [e, UInt64.toNat_ofNat']
  simp [IntKind.wrap, IntKind.bits, IntKind.signed]
theorem wWr (a : UInt64) (n : Nat) : ((a.toNat : Int).fdiv (2 ^ n)) = ((UInt64.ofNat (a.toNat / 2 ^ n)).toNat : Int) := by
  have h : a.toNat / 2 ^ n < 2 ^ 64 := Nat.lt_of_le_of_lt (Nat.div_le_self _ _) a.toNat_lt
  have e : (a.toNat : Int).fdiv (2 ^ n) = ((a.toNat / 2 ^ n : Nat) : Int) := by
    rw [Int.fdiv_eq_ediv_of_nonneg _ (Int.le_of_lt (Int.pow_pos (by decide)))]
    simp
  rw [e, UInt64.toNat_ofNat', Nat.mod_eq_of_lt h]
theorem bWI_shl (a : UInt64) (b : Int) (h : 0 ≤ b) : Bop P .shl t (vW a) (vI b) (vW (shWl a b)) := fun _ _ _ => by
  have h2 : ¬ b < 0 := by omega
  simp [vW, vI, eqGuard, binOp, Op.shift, h2, shWl, IntKind.bits, wWl]
theorem bWI_shr (a : UInt64) (b : Int) (h : 0 ≤ b) : Bop P .shr t (vW a) (vI b) (vW (shWr a b)) := fun _ _ _ => by
  have h2 : ¬ b < 0 := by omega
  simp [vW, vI, eqGuard, binOp, Op.shift, h2, shWr, IntKind.bits, wWr]
theorem bWW_shl (a : UInt64) (b : UInt64) : Bop P .shl t (vW a) (vW b) (vW (shWl a (b.toNat : Int))) := fun _ _ _ => by
  have h2 : ¬ ((b.toNat : Int) < 0) := by omega
  simp [vW, vW, eqGuard, binOp, Op.shift, h2, shWl, IntKind.bits, wWl]
theorem bWW_shr (a : UInt64) (b : UInt64) : Bop P .shr t (vW a) (vW b) (vW (shWr a (b.toNat : Int))) := fun _ _ _ => by
  have h2 : ¬ ((b.toNat : Int) < 0) := by omega
  simp [vW, vW, eqGuard, binOp, Op.shift, h2, shWr, IntKind.bits, wWr]
theorem bWD_shl (a : UInt64) (b : UInt32) : Bop P .shl t (vW a) (vD b) (vW (shWl a (b.toNat : Int))) := fun _ _ _ => by
  have h2 : ¬ ((b.toNat : Int) < 0) := by omega
  simp [vW, vD, eqGuard, binOp, Op.shift, h2, shWl, IntKind.bits, wWl]
theorem bWD_shr (a : UInt64) (b : UInt32) : Bop P .shr t (vW a) (vD b) (vW (shWr a (b.toNat : Int))) := fun _ _ _ => by
  have h2 : ¬ ((b.toNat : Int) < 0) := by omega
  simp [vW, vD, eqGuard, binOp, Op.shift, h2, shWr, IntKind.bits, wWr]
theorem bWH_shl (a : UInt64) (b : UInt16) : Bop P .shl t (vW a) (vH b) (vW (shWl a (b.toNat : Int))) := fun _ _ _ => by
  have h2 : ¬ ((b.toNat : Int) < 0) := by omega
  simp [vW, vH, eqGuard, binOp, Op.shift, h2, shWl, IntKind.bits, wWl]
theorem bWH_shr (a : UInt64) (b : UInt16) : Bop P .shr t (vW a) (vH b) (vW (shWr a (b.toNat : Int))) := fun _ _ _ => by
  have h2 : ¬ ((b.toNat : Int) < 0) := by omega
  simp [vW, vH, eqGuard, binOp, Op.shift, h2, shWr, IntKind.bits, wWr]
theorem bWY_shl (a : UInt64) (b : UInt8) : Bop P .shl t (vW a) (vY b) (vW (shWl a (b.toNat : Int))) := fun _ _ _ => by
  have h2 : ¬ ((b.toNat : Int) < 0) := by omega
  simp [vW, vY, eqGuard, binOp, Op.shift, h2, shWl, IntKind.bits, wWl]
theorem bWY_shr (a : UInt64) (b : UInt8) : Bop P .shr t (vW a) (vY b) (vW (shWr a (b.toNat : Int))) := fun _ _ _ => by
  have h2 : ¬ ((b.toNat : Int) < 0) := by omega
  simp [vW, vY, eqGuard, binOp, Op.shift, h2, shWr, IntKind.bits, wWr]
def shDl (a : UInt32) (n : Int) : UInt32 := UInt32.ofNat (a.toNat * 2 ^ min n.toNat 32)
def shDr (a : UInt32) (n : Int) : UInt32 := UInt32.ofNat (a.toNat / 2 ^ min n.toNat 32)
theorem wDl (a : UInt32) (n : Nat) : IntKind.wrap .u32 ((a.toNat : Int) * 2 ^ n) = ((UInt32.ofNat (a.toNat * 2 ^ n)).toNat : Int) := by
  have e : (a.toNat : Int) * 2 ^ n = ((a.toNat * 2 ^ n : Nat) : Int) := by simp
  rw [e, UInt32.toNat_ofNat']
  simp [IntKind.wrap, IntKind.bits, IntKind.signed]
theorem wDr (a : UInt32) (n : Nat) : ((a.toNat : Int).fdiv (2 ^ n)) = ((UInt32.ofNat (a.toNat / 2 ^ n)).toNat : Int) := by
  have h : a.toNat / 2 ^ n < 2 ^ 32 := Nat.lt_of_le_of_lt (Nat.div_le_self _ _) a.toNat_lt
  have e : (a.toNat : Int).fdiv (2 ^ n) = ((a.toNat / 2 ^ n : Nat) : Int) := by
    rw [Int.fdiv_eq_ediv_of_nonneg _ (Int.le_of_lt (Int.pow_pos (by decide)))]
    simp
  rw [e, UInt32.toNat_ofNat', Nat.mod_eq_of_lt h]
theorem bDI_shl (a : UInt32) (b : Int) (h : 0 ≤ b) : Bop P .shl t (vD a) (vI b) (vD (shDl a b)) := fun _ _ _ => by
  have h2 : ¬ b < 0 := by omega
  simp [vD, vI, eqGuard, binOp, Op.shift, h2, shDl, IntKind.bits, wDl]
theorem bDI_shr (a : UInt32) (b : Int) (h : 0 ≤ b) : Bop P .shr t (vD a) (vI b) (vD (shDr a b)) := fun _ _ _ => by
  have h2 : ¬ b < 0 := by omega
  simp [vD, vI, eqGuard, binOp, Op.shift, h2, shDr, IntKind.bits, wDr]
theorem bDW_shl (a : UInt32) (b : UInt64) : Bop P .shl t (vD a) (vW b) (vD (shDl a (b.toNat : Int))) := fun _ _ _ => by
  have h2 : ¬ ((b.toNat : Int) < 0) := by omega
  simp [vD, vW, eqGuard, binOp, Op.shift, h2, shDl, IntKind.bits, wDl]
theorem bDW_shr (a : UInt32) (b : UInt64) : Bop P .shr t (vD a) (vW b) (vD (shDr a (b.toNat : Int))) := fun _ _ _ => by
  have h2 : ¬ ((b.toNat : Int) < 0) := by omega
  simp [vD, vW, eqGuard, binOp, Op.shift, h2, shDr, IntKind.bits, wDr]
theorem bDD_shl (a : UInt32) (b : UInt32) : Bop P .shl t (vD a) (vD b) (vD (shDl a (b.toNat : Int))) := fun _ _ _ => by
  have h2 : ¬ ((b.toNat : Int) < 0) := by omega
  simp [vD, vD, eqGuard, binOp, Op.shift, h2, shDl, IntKind.bits, wDl]
theorem bDD_shr (a : UInt32) (b : UInt32) : Bop P .shr t (vD a) (vD b) (vD (shDr a (b.toNat : Int))) := fun _ _ _ => by
  have h2 : ¬ ((b.toNat : Int) < 0) := by omega
  simp [vD, vD, eqGuard, binOp, Op.shift, h2, shDr, IntKind.bits, wDr]
theorem bDH_shl (a : UInt32) (b : UInt16) : Bop P .shl t (vD a) (vH b) (vD (shDl a (b.toNat : Int))) := fun _ _ _ => by
  have h2 : ¬ ((b.toNat : Int) < 0) := by omega
  simp [vD, vH, eqGuard, binOp, Op.shift, h2, shDl, IntKind.bits, wDl]
theorem bDH_shr (a : UInt32) (b : UInt16) : Bop P .shr t (vD a) (vH b) (vD (shDr a (b.toNat : Int))) := fun _ _ _ => by
  have h2 : ¬ ((b.toNat : Int) < 0) := by omega
  simp [vD, vH, eqGuard, binOp, Op.shift, h2, shDr, IntKind.bits, wDr]
theorem bDY_shl (a : UInt32) (b : UInt8) : Bop P .shl t (vD a) (vY b) (vD (shDl a (b.toNat : Int))) := fun _ _ _ => by
  have h2 : ¬ ((b.toNat : Int) < 0) := by omega
  simp [vD, vY, eqGuard, binOp, Op.shift, h2, shDl, IntKind.bits, wDl]
theorem bDY_shr (a : UInt32) (b : UInt8) : Bop P .shr t (vD a) (vY b) (vD (shDr a (b.toNat : Int))) := fun _ _ _ => by
  have h2 : ¬ ((b.toNat : Int) < 0) := by omega
  simp [vD, vY, eqGuard, binOp, Op.shift, h2, shDr, IntKind.bits, wDr]
def shHl (a : UInt16) (n : Int) : UInt16 := UInt16.ofNat (a.toNat * 2 ^ min n.toNat 16)
def shHr (a : UInt16) (n : Int) : UInt16 := UInt16.ofNat (a.toNat / 2 ^ min n.toNat 16)
theorem wHl (a : UInt16) (n : Nat) : IntKind.wrap .u16 ((a.toNat : Int) * 2 ^ n) = ((UInt16.ofNat (a.toNat * 2 ^ n)).toNat : Int) := by
  have e : (a.toNat : Int) * 2 ^ n = ((a.toNat * 2 ^ n : Nat) : Int) := by simp
  rw [e, UInt16.toNat_ofNat']
  simp [IntKind.wrap, IntKind.bits, IntKind.signed]
theorem wHr (a : UInt16) (n : Nat) : ((a.toNat : Int).fdiv (2 ^ n)) = ((UInt16.ofNat (a.toNat / 2 ^ n)).toNat : Int) := by
  have h : a.toNat / 2 ^ n < 2 ^ 16 := Nat.lt_of_le_of_lt (Nat.div_le_self _ _) a.toNat_lt
  have e : (a.toNat : Int).fdiv (2 ^ n) = ((a.toNat / 2 ^ n : Nat) : Int) := by
    rw [Int.fdiv_eq_ediv_of_nonneg _ (Int.le_of_lt (Int.pow_pos (by decide)))]
    simp
  rw [e, UInt16.toNat_ofNat', Nat.mod_eq_of_lt h]
theorem bHI_shl (a : UInt16) (b : Int) (h : 0 ≤ b) : Bop P .shl t (vH a) (vI b) (vH (shHl a b)) := fun _ _ _ => by
  have h2 : ¬ b < 0 := by omega
  simp [vH, vI, eqGuard, binOp, Op.shift, h2, shHl, IntKind.bits, wHl]
theorem bHI_shr (a : UInt16) (b : Int) (h : 0 ≤ b) : Bop P .shr t (vH a) (vI b) (vH (shHr a b)) := fun _ _ _ => by
  have h2 : ¬ b < 0 := by omega
  simp [vH, vI, eqGuard, binOp, Op.shift, h2, shHr, IntKind.bits, wHr]
theorem bHW_shl (a : UInt16) (b : UInt64) : Bop P .shl t (vH a) (vW b) (vH (shHl a (b.toNat : Int))) := fun _ _ _ => by
  have h2 : ¬ ((b.toNat : Int) < 0) := by omega
  simp [vH, vW, eqGuard, binOp, Op.shift, h2, shHl, IntKind.bits, wHl]
theorem bHW_shr (a : UInt16) (b : UInt64) : Bop P .shr t (vH a) (vW b) (vH (shHr a (b.toNat : Int))) := fun _ _ _ => by
  have h2 : ¬ ((b.toNat : Int) < 0) := by omega
  simp [vH, vW, eqGuard, binOp, Op.shift, h2, shHr, IntKind.bits, wHr]
theorem bHD_shl (a : UInt16) (b : UInt32) : Bop P .shl t (vH a) (vD b) (vH (shHl a (b.toNat : Int))) := fun _ _ _ => by
  have h2 : ¬ ((b.toNat : Int) < 0) := by omega
  simp [vH, vD, eqGuard, binOp, Op.shift, h2, shHl, IntKind.bits, wHl]
theorem bHD_shr (a : UInt16) (b : UInt32) : Bop P .shr t (vH a) (vD b) (vH (shHr a (b.toNat : Int))) := fun _ _ _ => by
  have h2 : ¬ ((b.toNat : Int) < 0) := by omega
  simp [vH, vD, eqGuard, binOp, Op.shift, h2, shHr, IntKind.bits, wHr]
theorem bHH_shl (a : UInt16) (b : UInt16) : Bop P .shl t (vH a) (vH b) (vH (shHl a (b.toNat : Int))) := fun _ _ _ => by
  have h2 : ¬ ((b.toNat : Int) < 0) := by omega
  simp [vH, vH, eqGuard, binOp, Op.shift, h2, shHl, IntKind.bits, wHl]
theorem bHH_shr (a : UInt16) (b : UInt16) : Bop P .shr t (vH a) (vH b) (vH (shHr a (b.toNat : Int))) := fun _ _ _ => by
  have h2 : ¬ ((b.toNat : Int) < 0) := by omega
  simp [vH, vH, eqGuard, binOp, Op.shift, h2, shHr, IntKind.bits, wHr]
theorem bHY_shl (a : UInt16) (b : UInt8) : Bop P .shl t (vH a) (vY b) (vH (shHl a (b.toNat : Int))) := fun _ _ _ => by
  have h2 : ¬ ((b.toNat : Int) < 0) := by omega
  simp [vH, vY, eqGuard, binOp, Op.shift, h2, shHl, IntKind.bits, wHl]
theorem bHY_shr (a : UInt16) (b : UInt8) : Bop P .shr t (vH a) (vY b) (vH (shHr a (b.toNat : Int))) := fun _ _ _ => by
  have h2 : ¬ ((b.toNat : Int) < 0) := by omega
  simp [vH, vY, eqGuard, binOp, Op.shift, h2, shHr, IntKind.bits, wHr]
def shYl (a : UInt8) (n : Int) : UInt8 := UInt8.ofNat (a.toNat * 2 ^ min n.toNat 8)
def shYr (a : UInt8) (n : Int) : UInt8 := UInt8.ofNat (a.toNat / 2 ^ min n.toNat 8)
theorem wYl (a : UInt8) (n : Nat) : IntKind.wrap .u8 ((a.toNat : Int) * 2 ^ n) = ((UInt8.ofNat (a.toNat * 2 ^ n)).toNat : Int) := by
  have e : (a.toNat : Int) * 2 ^ n = ((a.toNat * 2 ^ n : Nat) : Int) := by simp
  rw [e, UInt8.toNat_ofNat']
  simp [IntKind.wrap, IntKind.bits, IntKind.signed]
theorem wYr (a : UInt8) (n : Nat) : ((a.toNat : Int).fdiv (2 ^ n)) = ((UInt8.ofNat (a.toNat / 2 ^ n)).toNat : Int) := by
  have h : a.toNat / 2 ^ n < 2 ^ 8 := Nat.lt_of_le_of_lt (Nat.div_le_self _ _) a.toNat_lt
  have e : (a.toNat : Int).fdiv (2 ^ n) = ((a.toNat / 2 ^ n : Nat) : Int) := by
    rw [Int.fdiv_eq_ediv_of_nonneg _ (Int.le_of_lt (Int.pow_pos (by decide)))]
    simp
  rw [e, UInt8.toNat_ofNat', Nat.mod_eq_of_lt h]
theorem bYI_shl (a : UInt8) (b : Int) (h : 0 ≤ b) : Bop P .shl t (vY a) (vI b) (vY (shYl a b)) := fun _ _ _ => by
  have h2 : ¬ b < 0 := by omega
  simp [vY, vI, eqGuard, binOp, Op.shift, h2, shYl, IntKind.bits, wYl]
theorem bYI_shr (a : UInt8) (b : Int) (h : 0 ≤ b) : Bop P .shr t (vY a) (vI b) (vY (shYr a b)) := fun _ _ _ => by
  have h2 : ¬ b < 0 := by omega
  simp [vY, vI, eqGuard, binOp, Op.shift, h2, shYr, IntKind.bits, wYr]
theorem bYW_shl (a : UInt8) (b : UInt64) : Bop P .shl t (vY a) (vW b) (vY (shYl a (b.toNat : Int))) := fun _ _ _ => by
  have h2 : ¬ ((b.toNat : Int) < 0) := by omega
  simp [vY, vW, eqGuard, binOp, Op.shift, h2, shYl, IntKind.bits, wYl]
theorem bYW_shr (a : UInt8) (b : UInt64) : Bop P .shr t (vY a) (vW b) (vY (shYr a (b.toNat : Int))) := fun _ _ _ => by
  have h2 : ¬ ((b.toNat : Int) < 0) := by omega
  simp [vY, vW, eqGuard, binOp, Op.shift, h2, shYr, IntKind.bits, wYr]
theorem bYD_shl (a : UInt8) (b : UInt32) : Bop P .shl t (vY a) (vD b) (vY (shYl a (b.toNat : Int))) := fun _ _ _ => by
  have h2 : ¬ ((b.toNat : Int) < 0) := by omega
  simp [vY, vD, eqGuard, binOp, Op.shift, h2, shYl, IntKind.bits, wYl]
theorem bYD_shr (a : UInt8) (b : UInt32) : Bop P .shr t (vY a) (vD b) (vY (shYr a (b.toNat : Int))) := fun _ _ _ => by
  have h2 : ¬ ((b.toNat : Int) < 0) := by omega
  simp [vY, vD, eqGuard, binOp, Op.shift, h2, shYr, IntKind.bits, wYr]
theorem bYH_shl (a : UInt8) (b : UInt16) : Bop P .shl t (vY a) (vH b) (vY (shYl a (b.toNat : Int))) := fun _ _ _ => by
  have h2 : ¬ ((b.toNat : Int) < 0) := by omega
  simp [vY, vH, eqGuard, binOp, Op.shift, h2, shYl, IntKind.bits, wYl]
theorem bYH_shr (a : UInt8) (b : UInt16) : Bop P .shr t (vY a) (vH b) (vY (shYr a (b.toNat : Int))) := fun _ _ _ => by
  have h2 : ¬ ((b.toNat : Int) < 0) := by omega
  simp [vY, vH, eqGuard, binOp, Op.shift, h2, shYr, IntKind.bits, wYr]
theorem bYY_shl (a : UInt8) (b : UInt8) : Bop P .shl t (vY a) (vY b) (vY (shYl a (b.toNat : Int))) := fun _ _ _ => by
  have h2 : ¬ ((b.toNat : Int) < 0) := by omega
  simp [vY, vY, eqGuard, binOp, Op.shift, h2, shYl, IntKind.bits, wYl]
theorem bYY_shr (a : UInt8) (b : UInt8) : Bop P .shr t (vY a) (vY b) (vY (shYr a (b.toNat : Int))) := fun _ _ _ => by
  have h2 : ¬ ((b.toNat : Int) < 0) := by omega
  simp [vY, vY, eqGuard, binOp, Op.shift, h2, shYr, IntKind.bits, wYr]
end
section
variable {x : Cx} {E : Env} {R : PH} {L : List HP} {ty : TypeId} {y z : Operand} {ats : Array TypeId}
theorem o_minI {a b : Int} (hy : ev E y = some (vI a)) (hz : ev E z = some (vI b)) : OV x (.call ⟨.builtin .min, #[y, z], ats⟩) ty E R L (vI (if b < a then b else a)) :=
  ou_of fun _ _ _ _ ac w hf hs => ⟨w, by
    have hr : (Builtin.min_ ats ty #[vI a, vI b]).run x.P w = .ok (vI (if b < a then b else a)) w := by
      by_cases h : b < a
      · have h' := h
        skip
        simp [Builtin.min_, Builtin.min2, vI, h, h']
      · have h' := h
        skip
        simp [Builtin.min_, Builtin.min2, vI, h, h']
        try omega
    simp [execOp, resolve, hf.ev hy, hf.ev hz, invoke, builtin, hr], hs⟩
theorem o_maxI {a b : Int} (hy : ev E y = some (vI a)) (hz : ev E z = some (vI b)) : OV x (.call ⟨.builtin .max, #[y, z], ats⟩) ty E R L (vI (if a < b then b else a)) :=
  ou_of fun _ _ _ _ ac w hf hs => ⟨w, by
    have hr : (Builtin.max_ ats ty #[vI a, vI b]).run x.P w = .ok (vI (if a < b then b else a)) w := by
      by_cases h : a < b
      · have h' := h
        skip
        simp [Builtin.max_, Builtin.max2, vI, h, h']
      · have h' := h
        skip
        simp [Builtin.max_, Builtin.max2, vI, h, h']
        try omega
    simp [execOp, resolve, hf.ev hy, hf.ev hz, invoke, builtin, hr], hs⟩
theorem o_minW {a b : UInt64} (hy : ev E y = some (vW a)) (hz : ev E z = some (vW b)) : OV x (.call ⟨.builtin .min, #[y, z], ats⟩) ty E R L (vW (if b < a then b else a)) :=
  ou_of fun _ _ _ _ ac w hf hs => ⟨w, by
    have hr : (Builtin.min_ ats ty #[vW a, vW b]).run x.P w = .ok (vW (if b < a then b else a)) w := by
      by_cases h : b < a
      · have h' := h
        rw [UInt64.lt_iff_toNat_lt] at h'
        simp [Builtin.min_, Builtin.min2, vW, h, h']
      · have h' := h
        rw [UInt64.lt_iff_toNat_lt] at h'
        simp [Builtin.min_, Builtin.min2, vW, h, h']
        try omega
    simp [execOp, resolve, hf.ev hy, hf.ev hz, invoke, builtin, hr], hs⟩
theorem o_maxW {a b : UInt64} (hy : ev E y = some (vW a)) (hz : ev E z = some (vW b)) : OV x (.call ⟨.builtin .max, #[y, z], ats⟩) ty E R L (vW (if a < b then b else a)) :=
  ou_of fun _ _ _ _ ac w hf hs => ⟨w, by
    have hr : (Builtin.max_ ats ty #[vW a, vW b]).run x.P w = .ok (vW (if a < b then b else a)) w := by
      by_cases h : a < b
      · have h' := h
        rw [UInt64.lt_iff_toNat_lt] at h'
        simp [Builtin.max_, Builtin.max2, vW, h, h']
      · have h' := h
        rw [UInt64.lt_iff_toNat_lt] at h'
        simp [Builtin.max_, Builtin.max2, vW, h, h']
        try omega
    simp [execOp, resolve, hf.ev hy, hf.ev hz, invoke, builtin, hr], hs⟩
theorem o_minD {a b : UInt32} (hy : ev E y = some (vD a)) (hz : ev E z = some (vD b)) : OV x (.call ⟨.builtin .min, #[y, z], ats⟩) ty E R L (vD (if b < a then b else a)) :=
  ou_of fun _ _ _ _ ac w hf hs => ⟨w, by
    have hr : (Builtin.min_ ats ty #[vD a, vD b]).run x.P w = .ok (vD (if b < a then b else a)) w := by
      by_cases h : b < a
      · have h' := h
        rw [UInt32.lt_iff_toNat_lt] at h'
        simp [Builtin.min_, Builtin.min2, vD, h, h']
      · have h' := h
        rw [UInt32.lt_iff_toNat_lt] at h'
        simp [Builtin.min_, Builtin.min2, vD, h, h']
        try omega
    simp [execOp, resolve, hf.ev hy, hf.ev hz, invoke, builtin, hr], hs⟩
theorem o_maxD {a b : UInt32} (hy : ev E y = some (vD a)) (hz : ev E z = some (vD b)) : OV x (.call ⟨.builtin .max, #[y, z], ats⟩) ty E R L (vD (if a < b then b else a)) :=
  ou_of fun _ _ _ _ ac w hf hs => ⟨w, by
    have hr : (Builtin.max_ ats ty #[vD a, vD b]).run x.P w = .ok (vD (if a < b then b else a)) w := by
      by_cases h : a < b
      · have h' := h
        rw [UInt32.lt_iff_toNat_lt] at h'
        simp [Builtin.max_, Builtin.max2, vD, h, h']
      · have h' := h
        rw [UInt32.lt_iff_toNat_lt] at h'
        simp [Builtin.max_, Builtin.max2, vD, h, h']
        try omega
    simp [execOp, resolve, hf.ev hy, hf.ev hz, invoke, builtin, hr], hs⟩
theorem o_minH {a b : UInt16} (hy : ev E y = some (vH a)) (hz : ev E z = some (vH b)) : OV x (.call ⟨.builtin .min, #[y, z], ats⟩) ty E R L (vH (if b < a then b else a)) :=
  ou_of fun _ _ _ _ ac w hf hs => ⟨w, by
    have hr : (Builtin.min_ ats ty #[vH a, vH b]).run x.P w = .ok (vH (if b < a then b else a)) w := by
      by_cases h : b < a
      · have h' := h
        rw [UInt16.lt_iff_toNat_lt] at h'
        simp [Builtin.min_, Builtin.min2, vH, h, h']
      · have h' := h
        rw [UInt16.lt_iff_toNat_lt] at h'
        simp [Builtin.min_, Builtin.min2, vH, h, h']
        try omega
    simp [execOp, resolve, hf.ev hy, hf.ev hz, invoke, builtin, hr], hs⟩
theorem o_maxH {a b : UInt16} (hy : ev E y = some (vH a)) (hz : ev E z = some (vH b)) : OV x (.call ⟨.builtin .max, #[y, z], ats⟩) ty E R L (vH (if a < b then b else a)) :=
  ou_of fun _ _ _ _ ac w hf hs => ⟨w, by
    have hr : (Builtin.max_ ats ty #[vH a, vH b]).run x.P w = .ok (vH (if a < b then b else a)) w := by
      by_cases h : a < b
      · have h' := h
        rw [UInt16.lt_iff_toNat_lt] at h'
        simp [Builtin.max_, Builtin.max2, vH, h, h']
      · have h' := h
        rw [UInt16.lt_iff_toNat_lt] at h'
        simp [Builtin.max_, Builtin.max2, vH, h, h']
        try omega
    simp [execOp, resolve, hf.ev hy, hf.ev hz, invoke, builtin, hr], hs⟩
theorem o_minY {a b : UInt8} (hy : ev E y = some (vY a)) (hz : ev E z = some (vY b)) : OV x (.call ⟨.builtin .min, #[y, z], ats⟩) ty E R L (vY (if b < a then b else a)) :=
  ou_of fun _ _ _ _ ac w hf hs => ⟨w, by
    have hr : (Builtin.min_ ats ty #[vY a, vY b]).run x.P w = .ok (vY (if b < a then b else a)) w := by
      by_cases h : b < a
      · have h' := h
        rw [UInt8.lt_iff_toNat_lt] at h'
        simp [Builtin.min_, Builtin.min2, vY, h, h']
      · have h' := h
        rw [UInt8.lt_iff_toNat_lt] at h'
        simp [Builtin.min_, Builtin.min2, vY, h, h']
        try omega
    simp [execOp, resolve, hf.ev hy, hf.ev hz, invoke, builtin, hr], hs⟩
theorem o_maxY {a b : UInt8} (hy : ev E y = some (vY a)) (hz : ev E z = some (vY b)) : OV x (.call ⟨.builtin .max, #[y, z], ats⟩) ty E R L (vY (if a < b then b else a)) :=
  ou_of fun _ _ _ _ ac w hf hs => ⟨w, by
    have hr : (Builtin.max_ ats ty #[vY a, vY b]).run x.P w = .ok (vY (if a < b then b else a)) w := by
      by_cases h : a < b
      · have h' := h
        rw [UInt8.lt_iff_toNat_lt] at h'
        simp [Builtin.max_, Builtin.max2, vY, h, h']
      · have h' := h
        rw [UInt8.lt_iff_toNat_lt] at h'
        simp [Builtin.max_, Builtin.max2, vY, h, h']
        try omega
    simp [execOp, resolve, hf.ev hy, hf.ev hz, invoke, builtin, hr], hs⟩
end
section
variable {x : Cx} {E : Env} {R : PH} {L L' : List HP} {ty : TypeId} {v : Value}
/-- A row's header is stored. -/
theorem o_stS {α : Type} {ap : Bool} {T2 sz : Nat} {en : α → List Value} {q : List α} {y z : Operand} {t b off T : Nat} {cs : List Value} {fr : Nat × Nat} (k : Nat) (ht : Sc x.P t) (hy : ev E y = some (pt b off)) (hz : ev E z = some v)
    (hL : L = Blk b (.cells cs.toArray T fr) :: L') (hk : L[k]? = some (OwS ap T2 sz en v q)) (hlt : Nat.blt off cs.length = true) (hfr : Nat.ble fr.2 off = true) :
    OU x (.store t y z) ty E R L undef R (Blk b (.cells (cs.set off v).toArray T fr) :: L') := fun dst pos aft g a w K Q hf hs hq hK => by
  obtain ⟨h, hh, _⟩ := hs.get hk
  obtain ⟨p, c, hv⟩ := hh.len
  exact o_st ht hy hz hL (by rw [hv]; rfl) hlt hfr dst pos aft g a w K Q hf hs hq hK
end
end Go.Proofs.YtpanhdnglicknaaGreat.Hw
