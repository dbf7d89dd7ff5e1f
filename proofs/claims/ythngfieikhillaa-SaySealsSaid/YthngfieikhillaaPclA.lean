import Derived.Test.YthngfieikhillaaW9
import Derived.Test.YthngfieikhillaaPwireS
set_option linter.unusedVariables false
set_option linter.unusedSectionVars false
set_option linter.unusedSimpArgs false
set_option maxRecDepth 100000
set_option maxHeartbeats 8000000

namespace Go.Proofs.Ythngfieikhillaa.Pure
open Go Go.Proofs.Ythngfieikhillaa.Hw Go.Proofs.Ythngfieikhillaa

theorem awake21 : hawthornlaw21_awake = some true := by decide +kernel
def noV : api_View := ⟨0, 0, 0, 0, 0, 0⟩
def noP : api_Promise := ⟨false, 0, 0, 0, noV, noV⟩
/-- What is told of a call. -/
def sayT (v : api_View) (seq : UInt64) (ses num : UInt64) (e : Int) : api_Say := ⟨14, v, noV, 0, noP, seq, 0, 0, [], ⟨0, 0, [], [], []⟩, [], [], ses, num, ⟨0, [], [], 0, 0⟩, ⟨e, [], 0⟩⟩
def sayA (ses num : UInt64) (o : api_Op) : api_Say := ⟨13, noV, noV, 0, noP, 0, 0, 0, [], ⟨0, 0, [], [], []⟩, [], [], ses, num, o, ⟨0, [], 0⟩⟩
def sayU (v : api_View) : api_Say := ⟨15, v, noV, 0, noP, 0, 0, 0, [], ⟨0, 0, [], [], []⟩, [], [], 0, 0, ⟨0, [], [], 0, 0⟩, ⟨0, [], 0⟩⟩
/-- Its bytes are read again the same. -/
def goes (x : api_Say) : Bool := match say_Put x with
  | some s => decide (s.length ≤ 65536) && match say_Get s with
    | some (y, 0) => decide (y = x)
    | _ => false
  | none => false
/-- It is sealed, and opened again the same. -/
theorem goes_ok {x : api_Say} (h : goes x = true) : ∃ S, say_Seal x = some (S, 0) ∧ say_Open S = some (x, 0) := by
  unfold goes at h
  split at h
  · rename_i s e
    rw [Bool.and_eq_true] at h
    obtain ⟨h1, h⟩ := h
    split at h
    · rename_i y e2
      have hy : y = x := by simpa using h
      obtain ⟨F, f1, _, f3, _⟩ := frame_back s (by simpa using h1)
      refine ⟨F, ?_, ?_⟩
      · unfold say_Seal; rw [e, Option.bind_some, f1, Option.bind_some]
      · unfold say_Open; rw [f3, Option.bind_some, if_neg (by simp), e2, hy, Option.bind_some]
    · cases h
  · cases h
def epoV (e : UInt64) : api_View := ⟨3, 0, 1, -1, 0, e⟩
theorem epo_goes : ∀ e : Fin 4, ∀ i : Fin 20, goes (sayT (epoV (UInt64.ofNat (1 + e.val))) 0 10 (UInt64.ofNat (i.val + 1)) 0) = true := by decide +kernel
theorem ask_goes : ∀ i : Fin 20, goes (sayA 10 (UInt64.ofNat (i.val + 1)) hawthornlaw21_get) = true := by decide +kernel
theorem toW_n (n : Nat) : toW (n : Int) = UInt64.ofNat n := by
  unfold toW
  apply UInt64.toNat_inj.1
  simp only [UInt64.toNat_ofNat']
  omega
theorem giL {α : Type} {l : List α} {p : Nat} (h : p < l.length) : gi l (p : Int) = some l[p] := by
  unfold gi; rw [if_pos (by omega)]; simp [h]
theorem i64s (n : Int) (h1 : -9223372036854775808 ≤ n) (h2 : n < 9223372036854775808) : i64 n = n := by unfold i64; omega
theorem apd_i {α : Type} (bytes : Nat) (l r : List α) (hb : bytes ≤ 80) (hl : l.length + r.length ≤ 1000000) : apd bytes l r = some (l ++ r) := by
  unfold apd
  rw [if_pos]
  calc (l.length + r.length) * bytes ≤ 1000000 * 80 := Nat.mul_le_mul hl hb
    _ ≤ _ := by decide
theorem om_some {α β : Type} (a : α) (n : β) (f : α → β) : om (some a) n f = f a := rfl
theorem idx_none (l : List api_Op) (hl : l.length ≤ 1000) (h : ∀ o ∈ l, client_New_1 o = false) : ∀ (f j : Nat), f = l.length - j + 1 → j ≤ l.length → slices_IndexFunc_api_Op_f45_l0 l f (j : Int) = some (.inl ()) := by
  intro f
  induction f with
  | zero => intro j h; omega
  | succ f ih =>
    intro j hf hj
    unfold slices_IndexFunc_api_Op_f45_l0
    by_cases q : j < l.length
    · rw [if_pos (by simpa using q), giL q, Option.bind_some, h _ (List.getElem_mem q), if_neg (by decide), i64s _ (by omega) (by omega)]
      exact ih (j + 1) (by omega) (by omega)
    · rw [if_neg (by simpa using q)]
theorem new_cl (n : Nat) (l : List api_Op) (h1 : 10 ≤ n) (h2 : n < 1000) (hl : l.length ≤ 64) (h : ∀ o ∈ l, client_New_1 o = false) : client_New (n : Int) l = some (some ⟨(n : Int), l, 0, 0, 0, 0, false, [], []⟩, 0) := by
  have e := idx_none l (by omega) h (((l.length : Int) - 0).toNat + 1) 0 (by omega) (by omega)
  have e : slices_IndexFunc_api_Op_f45_l0 l (((l.length : Int) - 0).toNat + 1) 0 = some (.inl ()) := e
  unfold client_New slices_ContainsFunc_api_Op_f45 slices_IndexFunc_api_Op_f45
  rw [if_neg (by simp; omega), e, Option.bind_some]
  dsimp only
  rw [Option.bind_some, Option.bind_some, show decide ((0 : Int) ≤ -1) = false from rfl, Option.bind_some, if_neg (by decide), apd_i _ _ _ (by decide) (by simp; omega), Option.bind_some, List.nil_append]
/-- A client asks. -/
theorem ask_cl (c : client_Client) (k : Nat) (o : api_Op) (hc : c.at_ = (k : Int)) (hk : k < 1000) (ho : gi c.l (k : Int) = some o) (hg : goes (sayA (toW c.n) (UInt64.ofNat (k + 1)) o) = true) :
    ∃ S, client_Client_ask c = some ([⟨c.n, c.to, S, false⟩], { c with since := 0 }) ∧ say_Open S = some (sayA (toW c.n) (UInt64.ofNat (k + 1)) o, 0) := by
  obtain ⟨S, e1, e2⟩ := goes_ok hg
  refine ⟨S, ?_, e2⟩
  have ew : toW (i64 ((k : Int) + 1)) = UInt64.ofNat (k + 1) := by
    rw [i64s _ (by omega) (by omega), show (k : Int) + 1 = ((k + 1 : Nat) : Int) by omega, toW_n]
  unfold client_Client_ask
  rw [hc, ho, Option.bind_some, ew]
  have e1' : say_Seal (⟨13, (⟨0, 0, 0, 0, 0, 0⟩ : api_View), (⟨0, 0, 0, 0, 0, 0⟩ : api_View), 0, (⟨false, 0, 0, 0, (⟨0, 0, 0, 0, 0, 0⟩ : api_View), (⟨0, 0, 0, 0, 0, 0⟩ : api_View)⟩ : api_Promise), 0, 0, 0, [], (⟨0, 0, [], [], []⟩ : api_Piece), [], [], toW c.n, UInt64.ofNat (k + 1), o, (⟨0, [], 0⟩ : api_Reply)⟩ : api_Say) = some (S, 0) := e1
  rw [e1', Option.bind_some, if_neg (by simp)]
theorem told_eq {a b : Int} {x : api_Say} {S : Str} (h : say_Seal x = some (S, 0)) : hawthornlaw21_told a b x = some ⟨a, b, S, false⟩ := by
  unfold hawthornlaw21_told
  rw [h, Option.bind_some]
end Go.Proofs.Ythngfieikhillaa.Pure
