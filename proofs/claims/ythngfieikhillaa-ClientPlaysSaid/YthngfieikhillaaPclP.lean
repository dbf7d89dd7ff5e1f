import Derived.Test.YthngfieikhillaaW9
import Derived.Test.YthngfieikhillaaPwireS
import Derived.Test.YthngfieikhillaaPclA
import Derived.Test.YthngfieikhillaaPclE
import Derived.Test.YthngfieikhillaaPclT
import Derived.Test.YthngfieikhillaaPclQ
set_option linter.unusedVariables false
set_option linter.unusedSectionVars false
set_option linter.unusedSimpArgs false
set_option maxRecDepth 100000
set_option maxHeartbeats 8000000

namespace Go.Proofs.Ythngfieikhillaa.Pure
open Go Go.Proofs.Ythngfieikhillaa.Hw Go.Proofs.Ythngfieikhillaa

def vwP (f : Int) : api_View := ⟨3, f, 1, -1, 0, 2⟩
theorem vwP_eq (f : Int) : hawthornlaw21_view f = vwP f := rfl
theorem vw_ok (f : Int) (h : f = 0 ∨ f = 1) : cell_Check (vwP f) = true := by rcases h with rfl | rfl <;> rfl
def opP (k : Nat) : api_Op := ⟨2, [107], [toY (97 + (k : Int))], 0, 0⟩
def callsP (n : Nat) : List api_Op := (List.range n).map opP
theorem put_goes : ∀ k : Fin 8, goes (sayA 12 (UInt64.ofNat (k.val + 1)) (opP k.val)) = true := by decide +kernel
theorem turn_goes : ∀ f : Fin 2, goes (sayU (vwP (f.val : Int))) = true := by decide +kernel
theorem turn_go (f : Int) (h : f = 0 ∨ f = 1) : goes (sayU (vwP f)) = true := by
  rcases h with rfl | rfl
  · exact turn_goes 0
  · exact turn_goes 1
theorem what_no : ∃ y e, say_Open [119, 104, 97, 116] = some (y, e) ∧ (e != 0) = true := by
  have h : (say_Open [119, 104, 97, 116]).map (fun r => r.2 != 0) = some true := by decide +kernel
  cases q : say_Open [119, 104, 97, 116] with
  | none => rw [q] at h; cases h
  | some z => rw [q] at h; exact ⟨z.1, z.2, rfl, by simpa using h⟩
theorem iand1 (a : Int) : iand a 1 = 0 ∨ iand a 1 = 1 := by
  have e : (BitVec.ofInt 64 (1 : Int)).toNat = 1 := by decide
  have h2 : (BitVec.ofInt 64 a &&& BitVec.ofInt 64 (1 : Int)).toNat ≤ 1 := by
    rw [BitVec.toNat_and, e]; exact Nat.and_le_right
  unfold iand
  generalize (BitVec.ofInt 64 a &&& BitVec.ofInt 64 (1 : Int)).toNat = k at h2
  have : k = 0 ∨ k = 1 := by omega
  rcases this with rfl | rfl
  · left; rfl
  · right; rfl
def good (j : Nat) (h : api_Heard) : Prop := h.Num = UInt64.ofNat (j + 1) ∧ h.V = 3 ∧ h.Epoch = 2 ∧ h.Began ≤ h.Ended
structure PI (n i : Nat) (c : client_Client) (k : Nat) (to since : Int) (under : Bool) : Prop where
  n7 : n ≤ 7
  cn : c.n = 12
  cl : c.l = callsP n
  ca : c.at_ = (k : Int)
  ct : c.to = to
  cs : c.since = since
  cu : c.under = under
  ch : c.heard.length = k
  kn : k ≤ n
  t1 : to = 0 ∨ to = 1
  s5 : 0 ≤ since ∧ since < 5
  ce : c.epochs.length ≤ k
  cb : c.began ≤ (i : Int)
  hg : ∀ j h, c.heard[j]? = some h → good j h
section
variable {n i k : Nat} {c : client_Client} {to since : Int} {under : Bool}
theorem PI.ended (h : PI n i c k to since under) : client_Client_Ended c = decide (n ≤ k) := by
  unfold client_Client_Ended
  rw [h.cl, h.ca]; simp [callsP]
theorem PI.next (h : PI n i c k to since under) : PI n (i + 1) c k to since under := { h with cb := by have := h.cb; omega }
theorem calls_get {n k : Nat} (h : k < n) : gi (callsP n) (k : Int) = some (opP k) := by
  rw [giL (by simpa [callsP] using h)]; simp [callsP]
/-- .. asks. -/
theorem PI.ask (h : PI n i c k to since under) (hk : k < n) (c2 : client_Client) (h1 : c2.n = c.n) (h2 : c2.l = c.l) (h3 : c2.at_ = c.at_) :
    ∃ S, client_Client_ask c2 = some ([⟨12, c2.to, S, false⟩], { c2 with since := 0 }) ∧ say_Open S = some (sayA 12 (UInt64.ofNat (k + 1)) (opP k), 0) := by
  have := h.n7
  have e : toW c2.n = 12 := by rw [h1, h.cn]; rfl
  obtain ⟨S, a1, a2⟩ := ask_cl c2 k (opP k) (by rw [h3, h.ca]) (by omega) (by rw [h2, h.cl]; exact calls_get hk) (by rw [e]; exact put_goes ⟨k, by omega⟩)
  rw [e] at a2
  have e2 : c2.n = 12 := by rw [h1, h.cn]
  exact ⟨S, by rw [a1, e2], a2⟩
theorem PI.hEnd (h : PI n i c k to since under) (hk : n ≤ k) (p : api_Packet) (now : Int) : client_Client_Handle c p now = some ([], c) := by
  unfold client_Client_Handle
  rw [h.ended, if_pos (by simp [hk])]
theorem PI.hOpen (h : PI n i c k to since under) (hk : k < n) (f : Int) (hf : f = 0 ∨ f = 1) (S : Str) (now : Int) (x : api_Say) (e : Int) (hS : say_Open S = some (x, e)) :
    client_Client_Handle c ⟨f, 12, S, false⟩ now = if (e != 0) then some ([], c) else if (((((x.Kind == 15) && under) && (x.View.Primary != f)) && (x.View.Primary == (i64 (1 - f)))) && (to != x.View.Primary)) then (client_Client_ask (⟨c.n, c.l, c.at_, x.View.Primary, c.since, c.began, c.under, c.heard, c.epochs⟩ : client_Client)).bind fun r16 => some (r16.1, r16.2) else if (((((x.Kind == 14) && under) && (x.Session == 12)) && (x.Num == (UInt64.ofNat (k + 1)))) && (x.Reply.E != 130)) then (client_Client_told c x now).bind fun r29 => some ([], r29) else some ([], c) := by
  have ew : toW (i64 (c.at_ + 1)) = UInt64.ofNat (k + 1) := by
    have := h.kn; have := h.n7
    rw [h.ca, i64s _ (by omega) (by omega), show (k : Int) + 1 = ((k + 1 : Nat) : Int) by omega, toW_n]
  unfold client_Client_Handle
  rw [h.ended, if_neg (by
    have : decide (n ≤ k) = false := by simp; omega
    rw [this, h.cn]; rcases hf with rfl | rfl <;> simp), hS, Option.bind_some]
  dsimp only
  rw [ew, h.cu, h.ct, show toW c.n = 12 by rw [h.cn]; rfl]
end
/-- What a step leaves. -/
def After (n i : Nat) (r : Option PS) : Prop := ∃ (c : client_Client) (k : Nat) (to since : Int) (under : Bool) (got : List api_Packet) (want : Bool), r = some (some c, (k : Int), to, since, under, (k : Int), got, want) ∧ PI n i c k to since under ∧
  (want = true → k < n ∧ ∃ S, got = [⟨12, to, S, false⟩] ∧ say_Open S = some (sayA 12 (UInt64.ofNat (k + 1)) (opP k), 0)) ∧ (want = false → got = [])
section
variable {n i k : Nat} {c : client_Client} {to since : Int} {under : Bool}
theorem len_calls (n : Nat) : ((callsP n).length : Int) = (n : Int) := by simp [callsP]
theorem PI.tick (h : PI n i c k to since under) : ∃ got c' to' since' under' want, client_Client_Tick c (i : Int) = some (got, c') ∧ PI n (i + 1) c' k to' since' under' ∧
    (want = true → k < n ∧ ∃ S, got = [⟨12, to', S, false⟩] ∧ say_Open S = some (sayA 12 (UInt64.ofNat (k + 1)) (opP k), 0)) ∧ (want = false → got = []) ∧
    (if (decide ((k : Int) < (n : Int)) && !under) then some (to, (0 : Int), true, true) else Option.bind (if decide ((k : Int) < (n : Int)) then Option.bind (if decide (5 ≤ (i64 (since + 1))) then some (i64 (1 - to), (0 : Int), true) else some (to, i64 (since + 1), false)) fun p166 => some (p166.1, p166.2.1, p166.2.2) else some (to, since, false)) fun p160 => some (p160.1, p160.2.1, under, p160.2.2)) = some (to', since', under', want) := by
  have hs := h.s5
  by_cases hk : k < n
  · have e1 : decide ((k : Int) < (n : Int)) = true := by simp; omega
    have hend : client_Client_Ended c = false := by rw [h.ended]; simp; omega
    by_cases hu : under = true
    · subst hu
      have e2 : i64 (since + 1) = since + 1 := i64s _ (by omega) (by omega)
      by_cases h5 : 5 ≤ since + 1
      · obtain ⟨S, a1, a2⟩ := h.ask hk ⟨c.n, c.l, c.at_, i64 (1 - c.to), i64 (c.since + 1), c.began, c.under, c.heard, c.epochs⟩ rfl rfl rfl
        have et2 : i64 (1 - to) = 1 - to := by rcases h.t1 with e | e <;> rw [e] <;> rfl
        have et : i64 (1 - c.to) = 1 - to := by rw [h.ct]; exact et2
        refine ⟨[⟨12, 1 - to, S, false⟩], ⟨c.n, c.l, c.at_, 1 - to, 0, c.began, c.under, c.heard, c.epochs⟩, 1 - to, 0, true, true, ?_, ?_, fun _ => ⟨hk, S, rfl, a2⟩, (by simp), ?_⟩
        · unfold client_Client_Tick
          rw [hend, if_neg (by decide), if_neg (by rw [h.cu]; decide), h.cs, e2, if_pos (by simpa using h5)]
          rw [h.cs, e2, et] at a1
          rw [et, a1, Option.bind_some]
        · exact { h.next with ct := rfl, cs := rfl, t1 := by rcases h.t1 with rfl | rfl <;> simp, s5 := by omega }
        · rw [e1, if_neg (by decide), if_pos rfl, e2, if_pos (by simpa using h5), et2]; rfl
      · refine ⟨[], ⟨c.n, c.l, c.at_, c.to, since + 1, c.began, c.under, c.heard, c.epochs⟩, to, since + 1, true, false, ?_, ?_, (by simp), (by simp), ?_⟩
        · unfold client_Client_Tick
          rw [hend, if_neg (by decide), if_neg (by rw [h.cu]; decide), h.cs, e2, if_neg (by simpa using h5)]
        · exact { h.next with cs := rfl, s5 := by omega }
        · rw [e1, if_neg (by decide), if_pos rfl, e2, if_neg (by simpa using h5)]; rfl
    · have hu : under = false := by simpa using hu
      subst hu
      obtain ⟨S, a1, a2⟩ := h.ask hk ⟨c.n, c.l, c.at_, c.to, c.since, (i : Int), true, c.heard, c.epochs⟩ rfl rfl rfl
      refine ⟨[⟨12, to, S, false⟩], ⟨c.n, c.l, c.at_, c.to, 0, (i : Int), true, c.heard, c.epochs⟩, to, 0, true, true, ?_, ?_, fun _ => ⟨hk, S, rfl, a2⟩, (by simp), ?_⟩
      · unfold client_Client_Tick
        rw [hend, if_neg (by decide), if_pos (by rw [h.cu]; rfl), a1, Option.bind_some, h.ct]
      · exact { h.next with cs := rfl, cu := rfl, s5 := by omega, cb := by dsimp only; omega }
      · rw [e1, if_pos (by decide)]
  · have e1 : decide ((k : Int) < (n : Int)) = false := by simp; omega
    refine ⟨[], c, to, since, under, false, ?_, h.next, (by simp), (by simp), ?_⟩
    · unfold client_Client_Tick
      rw [h.ended, if_pos (by simp; omega)]
    · rw [e1, if_neg (by simp), if_neg (by decide)]; rfl
theorem PI.step (h : PI n i c k to since under) (hi : i < 80) (x : hawthornlaw21_Act) : After n (i + 1) (stp (callsP n) x (some c) (k : Int) to since under (k : Int) (i : Int)) := by
  have hn7 := h.n7
  have hkn := h.kn
  unfold stp
  have hK : ∃ b : Bool, (if (x.Kind == 0) = true then some (x.Kind == 0) else some (x.Kind == 1)) = some b := by
    by_cases q : (x.Kind == 0) = true
    · exact ⟨_, if_pos q⟩
    · exact ⟨_, if_neg q⟩
  obtain ⟨b, hb⟩ := hK
  rw [hb, Option.bind_some, len_calls]
  have ew : toW (i64 ((k : Int) + 1)) = UInt64.ofNat (k + 1) := by
    rw [i64s _ (by omega) (by omega), show (k : Int) + 1 = ((k + 1 : Nat) : Int) by omega, toW_n]
  have hf := iand1 x.From
  generalize iand x.From 1 = f at hf
  cases b with
  | true =>
    obtain ⟨got, c', to', since', under', want, t1, t2, t3, t4, t5⟩ := h.tick
    rw [if_pos rfl, om_some, t1, Option.bind_some, t5, Option.bind_some]
    exact ⟨c', k, to', since', under', got, want, rfl, t2, t3, t4⟩
  | false =>
    rw [if_neg (by decide)]
    by_cases k2 : (x.Kind == 2) = true
    · have hq := iand1 x.Off
      generalize iand x.Off 1 = q at hq
      have en : toW (i64 ((k : Int) + 1)) + toW q = UInt64.ofNat (k + 1 + q.toNat) := by
        rw [ew]; rcases hq with rfl | rfl
        · apply UInt64.toNat_inj.1; simp [toW]
        · apply UInt64.toNat_inj.1; simp [toW]
      obtain ⟨T, s1, s2⟩ := goes_ok (told_goes (vwP f) (toW (i : Int)) 12 (UInt64.ofNat (k + 1 + q.toNat)) 0 (by omega) (vw_ok f hf))
      rw [if_pos k2, en, vwP_eq]
      rw [show hawthornlaw21_told f 12 (⟨14, vwP f, (⟨0, 0, 0, 0, 0, 0⟩ : api_View), 0, (⟨false, 0, 0, 0, (⟨0, 0, 0, 0, 0, 0⟩ : api_View), (⟨0, 0, 0, 0, 0, 0⟩ : api_View)⟩ : api_Promise), toW (i : Int), 0, 0, [], (⟨0, 0, [], [], []⟩ : api_Piece), [], [], 12, UInt64.ofNat (k + 1 + q.toNat), (⟨0, [], [], 0, 0⟩ : api_Op), (⟨0, [], 0⟩ : api_Reply)⟩ : api_Say) = some ⟨f, 12, T, false⟩ from told_eq s1, Option.bind_some, om_some] 
      by_cases hk : k < n
      · have e1 : decide ((k : Int) < (n : Int)) = true := by simp; omega
        rw [h.hOpen hk f hf T (i : Int) _ 0 s2, if_neg (by decide), if_neg (by simp [sayT])]
        by_cases hc : under = true ∧ q = 0
        · obtain ⟨rfl, rfl⟩ := hc
          rw [if_pos (by simp [sayT]), told_cl c _ _ k h.ca (by omega) (by rw [h.ch]; omega) (by have := h.ce; omega), Option.bind_some, Option.bind_some, e1, if_pos (by decide), Option.bind_some, Option.bind_some]
          have hl := nextE_len c.epochs 2
          refine ⟨_, k + 1, to, since, false, [], false, by rw [i64s _ (by omega) (by omega)]; rfl, ?_, (by simp), (by simp)⟩
          refine { h.next with ca := rfl, cu := rfl, ch := by simp [h.ch], kn := by omega, ce := ?_, hg := ?_ }
          · show (nextE c.epochs 2).length ≤ _
            have := h.ce; omega
          · intro j hh hj
            dsimp only at hj
            rw [List.getElem?_append] at hj
            split at hj
            · exact h.hg j hh hj
            · rename_i hlt
              have : j = k := by
                have := (List.getElem?_eq_some_iff.1 hj).1
                simp at this; have := h.ch; omega
              subst this
              rw [h.ch] at hj
              simp at hj
              subst hj
              exact ⟨by simp [sayT], rfl, rfl, h.cb⟩
        · have ht : ((((((sayT (vwP f) (toW (i : Int)) 12 (UInt64.ofNat (k + 1 + q.toNat)) ((0 : Nat) : Int)).Kind == 14) && under) && ((sayT (vwP f) (toW (i : Int)) 12 (UInt64.ofNat (k + 1 + q.toNat)) ((0 : Nat) : Int)).Session == 12)) && ((sayT (vwP f) (toW (i : Int)) 12 (UInt64.ofNat (k + 1 + q.toNat)) ((0 : Nat) : Int)).Num == (UInt64.ofNat (k + 1)))) && ((sayT (vwP f) (toW (i : Int)) 12 (UInt64.ofNat (k + 1 + q.toNat)) ((0 : Nat) : Int)).Reply.E != 130)) = false := by
            dsimp only [sayT]
            rcases hq with rfl | rfl
            · have : under = false := by
                cases under
                · rfl
                · exact absurd ⟨rfl, rfl⟩ hc
              subst this; simp
            · have : (UInt64.ofNat (k + 1 + (1 : Int).toNat) == UInt64.ofNat (k + 1)) = false := by
                simp only [beq_eq_false_iff_ne, ne_eq]
                intro e
                have := congrArg UInt64.toNat e
                simp only [UInt64.toNat_ofNat'] at this
                omega
              rw [this]; simp
          have hl : (decide ((k : Int) < (n : Int)) && under && (q == 0)) = false := by
            rw [e1]; rcases hq with rfl | rfl
            · have : under = false := by
                cases under
                · rfl
                · exact absurd ⟨rfl, rfl⟩ hc
              subst this; rfl
            · simp
          rw [ht, if_neg (by decide), Option.bind_some, hl, if_neg (by decide), Option.bind_some, Option.bind_some]
          exact ⟨c, k, to, since, under, [], false, rfl, h.next, (by simp), (by simp)⟩
      · have e1 : decide ((k : Int) < (n : Int)) = false := by simp; omega
        rw [h.hEnd (by omega), Option.bind_some, e1, if_neg (by simp), Option.bind_some, Option.bind_some]
        exact ⟨c, k, to, since, under, [], false, rfl, h.next, (by simp), (by simp)⟩
    rw [if_neg k2]
    by_cases k3 : (x.Kind == 3) = true
    · have hq := iand1 x.Off
      generalize iand x.Off 1 = q at hq
      obtain ⟨T, s1, s2⟩ := goes_ok (turn_go q hq)
      rw [if_pos k3, vwP_eq]
      rw [show hawthornlaw21_told f 12 (⟨15, vwP q, (⟨0, 0, 0, 0, 0, 0⟩ : api_View), 0, (⟨false, 0, 0, 0, (⟨0, 0, 0, 0, 0, 0⟩ : api_View), (⟨0, 0, 0, 0, 0, 0⟩ : api_View)⟩ : api_Promise), 0, 0, 0, [], (⟨0, 0, [], [], []⟩ : api_Piece), [], [], 0, 0, (⟨0, [], [], 0, 0⟩ : api_Op), (⟨0, [], 0⟩ : api_Reply)⟩ : api_Say) = some ⟨f, 12, T, false⟩ from told_eq s1, Option.bind_some, om_some] 
      by_cases hk : k < n
      · have e1 : decide ((k : Int) < (n : Int)) = true := by simp; omega
        have e1f : i64 (1 - f) = 1 - f := by rcases hf with e | e <;> rw [e] <;> rfl
        rw [h.hOpen hk f hf T (i : Int) _ 0 s2, if_neg (by decide), e1, e1f]
        have hcond : ((((((sayU (vwP q)).Kind == 15) && under) && ((sayU (vwP q)).View.Primary != f)) && ((sayU (vwP q)).View.Primary == (1 - f))) && (to != (sayU (vwP q)).View.Primary)) = (((true && under) && ((vwP q).Primary == (1 - f))) && (to != (vwP q).Primary)) := by
          show ((((true && under) && (q != f)) && (q == (1 - f))) && (to != q)) = (((true && under) && (q == (1 - f))) && (to != q))
          rcases hf with rfl | rfl <;> rcases hq with rfl | rfl <;> simp
        rw [hcond]
        by_cases hc : (((true && under) && ((vwP q).Primary == (1 - f))) && (to != (vwP q).Primary)) = true
        · rw [if_pos hc]
          obtain ⟨S, a1, a2⟩ := h.ask hk ⟨c.n, c.l, c.at_, (sayU (vwP q)).View.Primary, c.since, c.began, c.under, c.heard, c.epochs⟩ rfl rfl rfl
          rw [a1, Option.bind_some, Option.bind_some, if_pos hc, Option.bind_some, Option.bind_some, Option.bind_some]
          refine ⟨⟨c.n, c.l, c.at_, q, 0, c.began, c.under, c.heard, c.epochs⟩, k, q, 0, under, [⟨12, q, S, false⟩], true, ?_, ?_, ?_, ?_⟩
          · rfl
          · exact { h.next with ct := rfl, cs := rfl, t1 := hq, s5 := by omega }
          · exact fun _ => ⟨hk, S, rfl, a2⟩
          · simp
        · rw [if_neg hc, if_neg (by simp [sayU]), Option.bind_some, if_neg hc, Option.bind_some, Option.bind_some, Option.bind_some]
          exact ⟨c, k, to, since, under, [], false, rfl, h.next, (by simp), (by simp)⟩
      · have e1 : decide ((k : Int) < (n : Int)) = false := by simp; omega
        rw [h.hEnd (by omega), Option.bind_some, e1, if_neg (by simp), Option.bind_some, Option.bind_some, Option.bind_some]
        exact ⟨c, k, to, since, under, [], false, rfl, h.next, (by simp), (by simp)⟩
    rw [if_neg k3]
    by_cases k4 : (x.Kind == 4) = true
    · obtain ⟨T, s1, s2⟩ := goes_ok (told_goes (vwP f) 0 12 (UInt64.ofNat (k + 1)) 130 (by omega) (vw_ok f hf))
      rw [if_pos k4, ew, vwP_eq]
      rw [show hawthornlaw21_told f 12 (⟨14, vwP f, (⟨0, 0, 0, 0, 0, 0⟩ : api_View), 0, (⟨false, 0, 0, 0, (⟨0, 0, 0, 0, 0, 0⟩ : api_View), (⟨0, 0, 0, 0, 0, 0⟩ : api_View)⟩ : api_Promise), 0, 0, 0, [], (⟨0, 0, [], [], []⟩ : api_Piece), [], [], 12, UInt64.ofNat (k + 1), (⟨0, [], [], 0, 0⟩ : api_Op), (⟨130, [], 0⟩ : api_Reply)⟩ : api_Say) = some ⟨f, 12, T, false⟩ from told_eq s1, Option.bind_some, om_some] 
      have hh : client_Client_Handle c ⟨f, 12, T, false⟩ (i : Int) = some ([], c) := by
        by_cases hk : k < n
        · rw [h.hOpen hk f hf T (i : Int) _ 0 s2, if_neg (by decide), if_neg (by simp [sayT]), if_neg (by simp [sayT])]
        · exact h.hEnd (by omega) _ _
      rw [hh, Option.bind_some, Option.bind_some, Option.bind_some, Option.bind_some]
      exact ⟨c, k, to, since, under, [], false, rfl, h.next, (by simp), (by simp)⟩
    · rw [if_neg k4, om_some]
      obtain ⟨y, e, s2, he⟩ := what_no
      have hh : client_Client_Handle c ⟨f, 12, [119, 104, 97, 116], false⟩ (i : Int) = some ([], c) := by
        by_cases hk : k < n
        · rw [h.hOpen hk f hf _ (i : Int) _ e s2, if_pos he]
        · exact h.hEnd (by omega) _ _
      rw [hh, Option.bind_some, Option.bind_some, Option.bind_some, Option.bind_some]
      exact ⟨c, k, to, since, under, [], false, rfl, h.next, (by simp), (by simp)⟩
end
end Go.Proofs.Ythngfieikhillaa.Pure
