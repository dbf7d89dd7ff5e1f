import Derived.Test.YthngfieikhillaaW9
import Derived.Test.YthngfieikhillaaPwireS
import Derived.Test.YthngfieikhillaaPclA
set_option linter.unusedVariables false
set_option linter.unusedSectionVars false
set_option linter.unusedSimpArgs false
set_option maxRecDepth 100000
set_option maxHeartbeats 8000000

namespace Go.Proofs.Ythngfieikhillaa.Pure
open Go Go.Proofs.Ythngfieikhillaa.Hw Go.Proofs.Ythngfieikhillaa

theorem and3 (x : UInt64) : ∃ k : Nat, k < 4 ∧ 1 + (x &&& 3) = UInt64.ofNat (1 + k) := by
  have e3 : (3 : UInt64).toNat = 3 := by decide
  have h : (x &&& 3).toNat ≤ 3 := by rw [UInt64.toNat_and, e3]; exact Nat.and_le_right
  refine ⟨(x &&& 3).toNat, by omega, ?_⟩
  apply UInt64.toNat_inj.1
  have e1 : (1 : UInt64).toNat = 1 := by decide
  rw [UInt64.toNat_add, UInt64.toNat_ofNat', e1]
/-- The epochs, with another one behind them if it is another one. -/
def nextE (l : List UInt64) (e : UInt64) : List UInt64 := if l.getLast? = some e then l else l ++ [e]
theorem nextE_len (l : List UInt64) (e : UInt64) : (nextE l e).length ≤ l.length + 1 := by unfold nextE; split <;> simp
theorem next_test (l : List UInt64) (e : UInt64) (hl : l.length ≤ 1000) : ∃ b : Bool, (if ((l.length : Int) == 0) = true then some true else (gi l (i64 ((l.length : Int) - 1))).bind fun x25 => some (x25 != e)) = some b ∧ (if b = true then (apd 8 l [e]).bind fun l21 => some l21 else some l) = some (nextE l e) := by
  rcases List.eq_nil_or_concat l with rfl | ⟨l', x, rfl⟩
  · refine ⟨true, rfl, ?_⟩
    rw [if_pos rfl, apd_i _ _ _ (by decide) (by simp), Option.bind_some]; rfl
  · have e1 : i64 (((l'.concat x).length : Int) - 1) = (l'.length : Int) := by
      rw [List.concat_eq_append] at *; rw [i64s] <;> simp at * <;> omega
    rw [List.concat_eq_append] at *
    refine ⟨x != e, ?_, ?_⟩
    · rw [if_neg (by simp; omega), e1]
      unfold gi
      rw [if_pos (by omega)]
      simp
    · unfold nextE
      by_cases q : x = e
      · subst q; simp
      · rw [if_pos (by simpa using q), if_neg (by simpa using q), apd_i _ _ _ (by decide) (by simp at *; omega), Option.bind_some]
/-- A call is told. -/
theorem told_cl (c : client_Client) (x : api_Say) (now : Int) (k : Nat) (hc : c.at_ = (k : Int)) (hk : k < 1000) (h1 : c.heard.length ≤ 1000) (h2 : c.epochs.length ≤ 1000) :
    client_Client_told c x now = some { c with at_ := ((k + 1 : Nat) : Int), under := false, heard := c.heard ++ [⟨x.Num, x.View.Epoch, x.View.V, x.Seq, x.Reply, c.began, now⟩], epochs := nextE c.epochs x.View.Epoch } := by
  obtain ⟨b, e1, e2⟩ := next_test c.epochs x.View.Epoch h2
  unfold client_Client_told
  rw [apd_i _ _ _ (by decide) (by simp; omega), Option.bind_some, e1, Option.bind_some, e2, Option.bind_some, hc, i64s _ (by omega) (by omega)]
  rfl
theorem calls_loop (l : List UInt64) : ∀ (f i : Nat), i ≤ 20 → i ≤ l.length → f = l.length - i + 1 →
    hawthornlaw21_ClientEpochs_l2 l f (List.replicate i hawthornlaw21_get) (i : Int) = some (List.replicate (min l.length 20) hawthornlaw21_get) := by
  intro f
  induction f with
  | zero => intro i h1 h2 h; omega
  | succ f ih =>
    intro i h1 h2 hf
    unfold hawthornlaw21_ClientEpochs_l2
    by_cases h : i < l.length ∧ i < 20
    · rw [if_pos (by simp; omega), apd_i _ _ _ (by decide) (by simp; omega), Option.bind_some, i64s _ (by omega) (by omega), ← List.replicate_succ']
      exact ih (i + 1) (by omega) (by omega) (by omega)
    · rw [if_neg (by simp; omega), show min l.length 20 = i by omega]
theorem same_loop (p : List UInt64 × Option client_Client) (r : List UInt64) (h : r = p.1) (hl : p.1.length ≤ 1000) : ∀ (f i : Nat), f = p.1.length - i + 1 → i ≤ p.1.length → hawthornlaw21_ClientEpochs_l0 p r f (i : Int) = some (.inl ()) := by
  subst h
  intro f
  induction f with
  | zero => intro i h; omega
  | succ f ih =>
    intro i hf hi
    unfold hawthornlaw21_ClientEpochs_l0
    by_cases q : i < p.1.length
    · rw [if_pos (by simpa using q), giL q, Option.bind_some, Option.bind_some, if_neg (by simp), i64s _ (by omega) (by omega)]
      exact ih (i + 1) (by omega) (by omega)
    · rw [if_neg (by simpa using q)]
theorem epochs_loop (l : List UInt64) (n : Nat) (hn : n = min l.length 20) : ∀ (f i : Nat) (w : List UInt64) (c : client_Client), f = n - i + 1 → i ≤ n → w.length ≤ i → c.n = 10 → c.l = List.replicate n hawthornlaw21_get → c.at_ = (i : Int) → c.under = false → c.heard.length = i → c.epochs = w →
    ∃ w' c', hawthornlaw21_ClientEpochs_l1 l (List.replicate n hawthornlaw21_get) f w (some c) (i : Int) = some (w', some c') ∧ c'.epochs = w' ∧ w'.length ≤ n ∧ c'.at_ = (n : Int) ∧ c'.l = List.replicate n hawthornlaw21_get := by
  intro f
  induction f with
  | zero => intro i w c h; omega
  | succ f ih =>
    intro i w c hf hi hw c1 c2 c3 c4 c5 c6
    unfold hawthornlaw21_ClientEpochs_l1
    by_cases h : i < n
    · rw [if_pos (by simpa using h), om_some]
      have hend : client_Client_Ended c = false := by
        unfold client_Client_Ended; rw [c2, c3]; simpa using h
      have hg : gi c.l (i : Int) = some hawthornlaw21_get := by
        rw [c2, giL (by simpa using h)]; simp
      obtain ⟨S, a1, a2⟩ := ask_cl ⟨c.n, c.l, c.at_, c.to, c.since, (i : Int), true, c.heard, c.epochs⟩ i hawthornlaw21_get c3 (by omega) hg (by
        rw [show toW c.n = 10 by rw [c1]; rfl]
        exact ask_goes ⟨i, by omega⟩)
      have tick : client_Client_Tick c (i : Int) = some ([⟨c.n, c.to, S, false⟩], ⟨c.n, c.l, c.at_, c.to, 0, (i : Int), true, c.heard, c.epochs⟩) := by
        unfold client_Client_Tick
        rw [hend, if_neg (by decide), if_pos (by rw [c4]; rfl), a1, Option.bind_some]
      rw [tick, Option.bind_some, giL (show i < l.length by omega), Option.bind_some]
      obtain ⟨k, k1, k2⟩ := and3 l[i]
      rw [k2]
      obtain ⟨T, t1, t2⟩ := goes_ok (epo_goes ⟨k, k1⟩ ⟨i, by omega⟩)
      dsimp only at t1 t2
      have ew : toW (i64 ((i : Int) + 1)) = UInt64.ofNat (i + 1) := by
        rw [i64s _ (by omega) (by omega), show (i : Int) + 1 = ((i + 1 : Nat) : Int) by omega, toW_n]
      generalize UInt64.ofNat (1 + k) = e at t1 t2
      have ht : hawthornlaw21_told 0 10 (⟨14, (⟨(hawthornlaw21_view 0).V, (hawthornlaw21_view 0).Primary, (hawthornlaw21_view 0).PLife, (hawthornlaw21_view 0).Backup, (hawthornlaw21_view 0).BLife, e⟩ : api_View), (⟨0, 0, 0, 0, 0, 0⟩ : api_View), 0, (⟨false, 0, 0, 0, (⟨0, 0, 0, 0, 0, 0⟩ : api_View), (⟨0, 0, 0, 0, 0, 0⟩ : api_View)⟩ : api_Promise), 0, 0, 0, [], (⟨0, 0, [], [], []⟩ : api_Piece), [], [], 10, toW (i64 ((i : Int) + 1)), (⟨0, [], [], 0, 0⟩ : api_Op), (⟨0, [], 0⟩ : api_Reply)⟩ : api_Say) = some ⟨0, 10, T, false⟩ := by
        rw [ew]
        exact told_eq t1
      rw [ht, Option.bind_some]
      dsimp only
      have ew2 : toW (i64 (c.at_ + 1)) = UInt64.ofNat (i + 1) := by rw [c3]; exact ew
      have hand : client_Client_Handle ⟨c.n, c.l, c.at_, c.to, 0, (i : Int), true, c.heard, c.epochs⟩ ⟨0, 10, T, false⟩ (i : Int) = some ([], ⟨c.n, c.l, ((i + 1 : Nat) : Int), c.to, 0, (i : Int), false, c.heard ++ [⟨UInt64.ofNat (i + 1), e, 3, 0, ⟨0, [], 0⟩, (i : Int), (i : Int)⟩], nextE c.epochs e⟩) := by
        have tl := told_cl ⟨c.n, c.l, c.at_, c.to, 0, (i : Int), true, c.heard, c.epochs⟩ (sayT (epoV e) 0 10 (UInt64.ofNat (i + 1)) 0) (i : Int) i c3 (by omega) (by dsimp only; omega) (by dsimp only; rw [c6]; omega)
        unfold client_Client_Handle
        rw [if_neg (by
          have : client_Client_Ended ⟨c.n, c.l, c.at_, c.to, 0, (i : Int), true, c.heard, c.epochs⟩ = false := hend
          rw [this, c1]; simp), t2, Option.bind_some, if_neg (by simp)]
        rw [if_neg (by simp [sayT])]
        rw [if_pos (by
          dsimp only [sayT]
          rw [ew2, c1, show toW 10 = 10 from rfl]; simp), tl, Option.bind_some]
        rfl
      rw [hand, Option.bind_some]
      obtain ⟨b, e1, e2⟩ := next_test w e (by omega)
      rw [e1, Option.bind_some, e2, Option.bind_some, i64s _ (by omega) (by omega)]
      have hl := nextE_len w e
      exact ih (i + 1) (nextE w e) _ (by omega) (by omega) (by omega) c1 c2 rfl rfl (by simp; omega) (by dsimp only; rw [c6])
    · obtain rfl : i = n := by omega
      rw [if_neg (by simp)]
      exact ⟨w, c, rfl, c6, by omega, c3, c2⟩
theorem ClientEpochs (l : List UInt64) {p q : Prop} (_ : p) (_ : q) : hawthornlaw21_ClientEpochs l = some true := by
  have e1 := calls_loop l (((l.length : Int) - 0).toNat + 1) 0 (by omega) (by omega) (by omega)
  have e1 : hawthornlaw21_ClientEpochs_l2 l (((l.length : Int) - 0).toNat + 1) [] 0 = _ := e1
  have hnew := new_cl 10 (List.replicate (min l.length 20) hawthornlaw21_get) (by omega) (by omega) (by simp; omega) (fun o ho => by rw [List.eq_of_mem_replicate ho]; rfl)
  have hnew : client_New 10 (List.replicate (min l.length 20) hawthornlaw21_get) = _ := hnew
  generalize hn : min l.length 20 = n at *
  obtain ⟨w, c, e2, e3, e4, e5, e6⟩ := epochs_loop l n hn.symm (((((List.replicate n hawthornlaw21_get).length : Nat) : Int) - 0).toNat + 1) 0 [] ⟨10, List.replicate n hawthornlaw21_get, 0, 0, 0, 0, false, [], []⟩ (by simp) (by omega) (by simp) rfl rfl rfl rfl rfl rfl
  unfold hawthornlaw21_ClientEpochs
  rw [e1, Option.bind_some, hnew, Option.bind_some, awake21, Option.bind_some, if_neg (by simp)]
  dsimp only
  have e2' : hawthornlaw21_ClientEpochs_l1 l (List.replicate n hawthornlaw21_get) (((((List.replicate n hawthornlaw21_get).length : Nat) : Int) - 0).toNat + 1) [] (some ⟨10, List.replicate n hawthornlaw21_get, 0, 0, 0, 0, false, [], []⟩) 0 = some (w, some c) := e2
  rw [show ((10 : Nat) : Int) = 10 from rfl, e2', Option.bind_some, om_some]
  unfold client_Client_Epochs
  rw [apd_i _ _ _ (by decide) (by rw [e3]; simp; omega), Option.bind_some, Option.bind_some, List.nil_append, e3]
  dsimp only
  have hE : client_Client_Ended c = true := by unfold client_Client_Ended; rw [e5, e6]; simp
  have S := same_loop (w, some c) w rfl (by dsimp only; omega) (((w.length : Int) - 0).toNat + 1) 0 (by dsimp only; omega) (by dsimp only; omega)
  have S : hawthornlaw21_ClientEpochs_l0 (w, some c) w (((w.length : Int) - 0).toNat + 1) 0 = some (.inl ()) := S
  rw [if_neg (by simp), hE, Option.bind_some, if_neg (by decide), S, Option.bind_some]
end Go.Proofs.Ythngfieikhillaa.Pure
