import Derived.Test.YthngfieikhillaaW9
import Derived.Test.YthngfieikhillaaPwireS
import Derived.Test.YthngfieikhillaaPclA
import Derived.Test.YthngfieikhillaaPclE
import Derived.Test.YthngfieikhillaaPclT
import Derived.Test.YthngfieikhillaaPclQ
import Derived.Test.YthngfieikhillaaPclP
set_option linter.unusedVariables false
set_option linter.unusedSectionVars false
set_option linter.unusedSimpArgs false
set_option maxRecDepth 100000
set_option maxHeartbeats 8000000

namespace Go.Proofs.Ythngfieikhillaa.Pure
open Go Go.Proofs.Ythngfieikhillaa.Hw Go.Proofs.Ythngfieikhillaa

theorem asks_ok (to : Int) (S : Str) (k : Nat) (o : api_Op) (hS : say_Open S = some (sayA 12 (UInt64.ofNat (k + 1)) o, 0)) : hawthornlaw21_asks [⟨12, to, S, false⟩] 12 to (UInt64.ofNat (k + 1)) o = some true := by
  unfold hawthornlaw21_asks
  rw [if_neg (by simp), show gi [(⟨12, to, S, false⟩ : api_Packet)] 0 = some ⟨12, to, S, false⟩ from rfl, Option.bind_some, Option.bind_some, if_neg (by simp), Option.bind_some]
  dsimp only
  rw [hS, Option.bind_some]
  simp [sayA, toW]
theorem cnt_ok (a1 : List hawthornlaw21_Act) (n i k f : Nat) (c : client_Client) (to since : Int) (under : Bool) (got : List api_Packet) (want : Bool) (hi : i < 80) (h : PI n (i + 1) c k to since under)
    (hw : want = true → k < n ∧ ∃ S, got = [⟨12, to, S, false⟩] ∧ say_Open S = some (sayA 12 (UInt64.ofNat (k + 1)) (opP k), 0)) (hg : want = false → got = []) :
    cnt a1 (callsP n) f (i : Int) (some c, (k : Int), to, since, under, (k : Int), got, want) = hawthornlaw21_ClientPlays_l1 a1 (callsP n) f (some c) (k : Int) to since under (k : Int) ((i + 1 : Nat) : Int) := by
  have hn7 := h.n7
  have hkn := h.kn
  have hch := h.ch
  unfold cnt
  dsimp only
  have A : (if want = true then (gi (callsP n) (k : Int)).bind fun x118 => (hawthornlaw21_asks got 12 to (toW (i64 ((k : Int) + 1))) x118).bind fun r124 => Option.bind (if r124 = true then some false else some true) fun p126 => some p126 else some ((got.length : Int) != 0)) = some false := by
    cases want with
    | true =>
      obtain ⟨hk, S, rfl, hS⟩ := hw rfl
      have ew : toW (i64 ((k : Int) + 1)) = UInt64.ofNat (k + 1) := by
        rw [i64s _ (by omega) (by omega), show (k : Int) + 1 = ((k + 1 : Nat) : Int) by omega, toW_n]
      rw [if_pos rfl, calls_get hk, Option.bind_some, ew, asks_ok to S k _ hS, Option.bind_some, if_pos rfl, Option.bind_some]
    | false => rw [hg rfl]; rfl
  rw [A, Option.bind_some, if_neg (by decide), om_some, h.ended, len_calls]
  unfold client_Client_Heard
  have e1 : (decide (n ≤ k) != decide ((n : Int) ≤ (k : Int))) = false := by
    have : decide ((n : Int) ≤ (k : Int)) = decide (n ≤ k) := by simp
    rw [this]; simp
  rw [e1, if_neg (by decide), apd_i _ _ _ (by decide) (by simp; omega), Option.bind_some, Option.bind_some, List.nil_append, hch, Option.bind_some, if_neg (by simp), i64s _ (by omega) (by omega)]
  rfl
theorem plays_loop (l : List hawthornlaw21_Act) (n : Nat) : ∀ (f i : Nat) (c : client_Client) (k : Nat) (to since : Int) (under : Bool), f = l.length - i + 1 → i ≤ l.length → i ≤ 80 → PI n i c k to since under →
    ∃ c' k' to' since' under' i', hawthornlaw21_ClientPlays_l1 l (callsP n) f (some c) (k : Int) to since under (k : Int) (i : Int) = some (.inl (some c')) ∧ PI n i' c' k' to' since' under' := by
  intro f
  induction f with
  | zero => intro i c k to since under h; omega
  | succ f ih =>
    intro i c k to since under hf hi hi2 h
    rw [plays_l1]
    by_cases hc : i < l.length ∧ i < 80
    · rw [if_pos (by simp; omega), giL hc.1, Option.bind_some]
      obtain ⟨c', k', to', since', under', got, want, e, h', hw, hg⟩ := h.step hc.2 l[i]
      rw [e, Option.bind_some, cnt_ok l n i k' f c' to' since' under' got want hc.2 h' hw hg]
      exact ih (i + 1) c' k' to' since' under' (by omega) (by omega) (by omega) h'
    · rw [if_neg (by simp; omega)]
      exact ⟨c, k, to, since, under, i, rfl, h⟩
theorem calls_loop2 (a : Int) (n : Nat) (hn : iand a 7 = (n : Int)) (h7 : n ≤ 7) : ∀ (f i : Nat), f = n - i + 1 → i ≤ n → hawthornlaw21_ClientPlays_l2 a f (callsP i) (i : Int) = some (callsP n) := by
  intro f
  induction f with
  | zero => intro i h; omega
  | succ f ih =>
    intro i hf hi
    unfold hawthornlaw21_ClientPlays_l2
    rw [hn]
    by_cases h : i < n
    · rw [if_pos (by simpa using h), apd_i _ _ _ (by decide) (by simp [callsP]; omega), Option.bind_some, i64s _ (by omega) (by omega), i64s _ (by omega) (by omega)]
      have : callsP i ++ [(⟨2, [107], [toY (97 + (i : Int))], 0, 0⟩ : api_Op)] = callsP (i + 1) := by
        unfold callsP; rw [List.range_succ, List.map_append]; rfl
      rw [this]
      exact ih (i + 1) (by omega) (by omega)
    · obtain rfl : i = n := by omega
      rw [if_neg (by simp)]
theorem heard_loop (r : List api_Heard) (hl : r.length ≤ 1000) (hg : ∀ j h, r[j]? = some h → good j h) : ∀ (f i : Nat), f = r.length - i + 1 → i ≤ r.length → hawthornlaw21_ClientPlays_l0 r f (i : Int) = some (.inl ()) := by
  intro f
  induction f with
  | zero => intro i h; omega
  | succ f ih =>
    intro i hf hi
    unfold hawthornlaw21_ClientPlays_l0
    by_cases h : i < r.length
    · obtain ⟨g1, g2, g3, g4⟩ := hg i r[i] (List.getElem?_eq_getElem h)
      have ew : toW (i64 ((i : Int) + 1)) = UInt64.ofNat (i + 1) := by
        rw [i64s _ (by omega) (by omega), show (i : Int) + 1 = ((i + 1 : Nat) : Int) by omega, toW_n]
      rw [if_pos (by simpa using h), giL h, Option.bind_some, ew, g1, g2, g3, if_neg (by simp; omega), i64s _ (by omega) (by omega)]
      exact ih (i + 1) (by omega) (by omega)
    · rw [if_neg (by simpa using h)]
theorem iand7 (a : Int) : ∃ k : Nat, iand a 7 = (k : Int) ∧ k ≤ 7 := by
  have e : (BitVec.ofInt 64 (7 : Int)).toNat = 7 := by decide
  have h2 : (BitVec.ofInt 64 a &&& BitVec.ofInt 64 (7 : Int)).toNat ≤ 7 := by
    rw [BitVec.toNat_and, e]; exact Nat.and_le_right
  unfold iand
  generalize (BitVec.ofInt 64 a &&& BitVec.ofInt 64 (7 : Int)).toNat = k at h2
  exact ⟨k, i64s _ (by omega) (by omega), h2⟩
theorem opP_ok : ∀ k : Fin 8, client_New_1 (opP k.val) = false := by decide +kernel
theorem ClientPlays (a : Int) (l : List hawthornlaw21_Act) {p q r : Prop} (_ : p) (_ : q) (_ : r) : hawthornlaw21_ClientPlays a l = some true := by
  obtain ⟨n, hn, h7⟩ := iand7 a
  have e1 := calls_loop2 a n hn h7 (((n : Int) - 0).toNat + 1) 0 (by omega) (by omega)
  have e1 : hawthornlaw21_ClientPlays_l2 a (((n : Int) - 0).toNat + 1) [] 0 = some (callsP n) := e1
  have hnew := new_cl 12 (callsP n) (by omega) (by omega) (by simp [callsP]; omega) (fun o ho => by
    unfold callsP at ho
    obtain ⟨k, hk, rfl⟩ := List.mem_map.1 ho
    exact opP_ok ⟨k, by have := List.mem_range.1 hk; omega⟩)
  have hnew : client_New 12 (callsP n) = _ := hnew
  obtain ⟨c, k, to, since, under, i', e2, h⟩ := plays_loop l n (((l.length : Int) - 0).toNat + 1) 0 ⟨12, callsP n, 0, 0, 0, 0, false, [], []⟩ 0 0 0 false (by omega) (by omega) (by omega)
    ⟨h7, rfl, rfl, rfl, rfl, rfl, rfl, rfl, by omega, .inl rfl, by omega, by simp, by simp, by simp⟩
  have e2 : hawthornlaw21_ClientPlays_l1 l (callsP n) (((l.length : Int) - 0).toNat + 1) (some ⟨12, callsP n, 0, 0, 0, 0, false, [], []⟩) 0 0 0 false 0 0 = some (.inl (some c)) := e2
  have hch := h.ch
  have hkn := h.kn
  have e3 : hawthornlaw21_ClientPlays_l0 c.heard (((c.heard.length : Int) - 0).toNat + 1) 0 = some (.inl ()) := heard_loop c.heard (by omega) h.hg _ 0 (by omega) (by omega)
  unfold hawthornlaw21_ClientPlays
  rw [hn, e1, Option.bind_some, hnew, Option.bind_some, awake21, Option.bind_some, if_neg (by simp)]
  dsimp only
  rw [show ((12 : Nat) : Int) = 12 from rfl, e2, Option.bind_some]
  dsimp only
  rw [om_some]
  unfold client_Client_Heard
  rw [apd_i _ _ _ (by decide) (by simp; omega), Option.bind_some, Option.bind_some, List.nil_append, e3, Option.bind_some]
end Go.Proofs.Ythngfieikhillaa.Pure
