import Derived.Test.YtgnpffbgfmeinaaW1
import Derived.Test.YtgnpffbgfmeinaaPwireA
import Derived.Test.YtgnpffbgfmeinaaPwireB
import Derived.Test.YtgnpffbgfmeinaaPwireC
import Derived.Test.YtgnpffbgfmeinaaPwireD
import Derived.Test.YtgnpffbgfmeinaaPwireE
import Derived.Test.YtgnpffbgfmeinaaPwireF
import Derived.Test.YtgnpffbgfmeinaaPwireG
import Derived.Test.YtgnpffbgfmeinaaPwireH
import Derived.Test.YtgnpffbgfmeinaaPwireI
import Derived.Test.YtgnpffbgfmeinaaPwireJ
import Derived.Test.YtgnpffbgfmeinaaPwireK
import Derived.Test.YtgnpffbgfmeinaaPwireL
import Derived.Test.YtgnpffbgfmeinaaPwireM
import Derived.Test.YtgnpffbgfmeinaaPwireN
set_option linter.unusedVariables false
set_option linter.unusedSectionVars false
set_option linter.unusedSimpArgs false
set_option maxRecDepth 100000
set_option maxHeartbeats 8000000

namespace Go.Proofs.Ytgnpffbgfmeinaa.Pure
open Go Go.Proofs.Ytgnpffbgfmeinaa.Hw Go.Proofs.Ytgnpffbgfmeinaa

/-! WireReads -/
abbrev Stp := hawthornlaw03_Step
/-- One is taken off, by the code. -/
def cstep (x : Stp) (s : Str) : Option (Str ⊕ (Int × wire_Reader)) :=
  if x.Kind == 0 then (wire_Reader_Num ⟨s⟩ (toW x.N)).bind fun r => sm r (fun (ra : UInt64 × wire_Reader) => some (.inl ra.2.s)) fun ((n, o) : Int × wire_Reader) => some (.inr (n, o))
  else if x.Kind == 1 then (wire_Reader_Text ⟨s⟩ x.N).bind fun r => sm r (fun (ra : Str × wire_Reader) => some (.inl ra.2.s)) fun ((n, o) : Int × wire_Reader) => some (.inr (n, o))
  else if x.Kind == 2 then (wire_Reader_Flag ⟨s⟩).bind fun r => sm r (fun (ra : Bool × wire_Reader) => some (.inl ra.2.s)) fun ((n, o) : Int × wire_Reader) => some (.inr (n, o))
  else if x.Kind == 3 then (wire_Reader_Bytes ⟨s⟩ x.N).bind fun r => sm r (fun (ra : Str × wire_Reader) => some (.inl ra.2.s)) fun ((n, o) : Int × wire_Reader) => some (.inr (n, o))
  else lt (wire_Reader_Must ⟨s⟩ x.OK) fun r => sm r (fun (_ : Unit) => some (.inl s)) fun ((n, _) : Int × Unit) => some (.inr (n, ⟨s⟩))
/-- .. by the document. -/
def rstep (x : Stp) (a : hawthornref03_At) : Option hawthornref03_At :=
  if (x.Kind == 0) then (hawthornref03_At_Num a (toW x.N)).bind fun r73 => some r73.1 else Option.bind (if (x.Kind == 1) then (hawthornref03_At_Text a x.N).bind fun r81 => some r81.1 else Option.bind (if (x.Kind == 2) then (hawthornref03_At_Flag a).bind fun r89 => some r89.1 else Option.bind (if (x.Kind == 3) then (hawthornref03_At_Bytes a x.N).bind fun r97 => some r97.1 else some (hawthornref03_At_Must a x.OK)) fun p91 => some p91) fun p83 => some p83) fun p75 => some p75
def relS (r : Str ⊕ (Int × wire_Reader)) (a : hawthornref03_At) : Prop := match r with
  | .inl s => a = ⟨s, 0⟩
  | .inr (e, _) => a.Err = e ∧ e ≠ 0
theorem of_rel {α : Type} {z : α} {r : (α × wire_Reader) ⊕ (Int × wire_Reader)} {a : hawthornref03_At} {v : α} (h : rel z r a v) :
    ∃ q, (sm r (fun (ra : α × wire_Reader) => some (.inl ra.2.s)) fun ((n, o) : Int × wire_Reader) => some (.inr (n, o)) : Option (Str ⊕ (Int × wire_Reader))) = some q ∧ relS q a := by
  rcases r with ⟨x, rd⟩ | ⟨e, o⟩
  · exact ⟨_, rfl, h.1⟩
  · exact ⟨_, rfl, h⟩
theorem step_rel3 (x : Stp) (s : Str) : ∃ r a, cstep x s = some r ∧ rstep x ⟨s, 0⟩ = some a ∧ relS r a := by
  unfold cstep rstep
  by_cases h0 : (x.Kind == 0) = true
  · obtain ⟨r, a, v, e1, e2, e3⟩ := num_rel s (toW x.N)
    obtain ⟨q, e4, e5⟩ := of_rel e3
    rw [if_pos h0, if_pos h0, e1, Option.bind_some, e2, Option.bind_some]
    exact ⟨q, a, e4, rfl, e5⟩
  rw [if_neg h0, if_neg h0]
  by_cases h1 : (x.Kind == 1) = true
  · obtain ⟨r, a, v, e1, e2, e3⟩ := text_rel s x.N
    obtain ⟨q, e4, e5⟩ := of_rel e3
    rw [if_pos h1, if_pos h1, e1, Option.bind_some, e2, Option.bind_some]
    exact ⟨q, a, e4, rfl, e5⟩
  rw [if_neg h1, if_neg h1]
  by_cases h2 : (x.Kind == 2) = true
  · obtain ⟨r, a, v, e1, e2, e3⟩ := flag_rel s
    obtain ⟨q, e4, e5⟩ := of_rel e3
    rw [if_pos h2, if_pos h2, e1, Option.bind_some, e2, Option.bind_some]
    exact ⟨q, a, e4, rfl, e5⟩
  rw [if_neg h2, if_neg h2]
  by_cases h3 : (x.Kind == 3) = true
  · obtain ⟨r, a, v, e1, e2, e3, _⟩ := bytes_rel s x.N
    obtain ⟨q, e4, e5⟩ := of_rel e3
    rw [if_pos h3, if_pos h3, e1, Option.bind_some, e2, Option.bind_some]
    exact ⟨q, a, e4, rfl, e5⟩
  rw [if_neg h3, if_neg h3]
  cases x.OK with
  | true => exact ⟨_, _, rfl, rfl, rfl⟩
  | false => exact ⟨_, _, rfl, rfl, rfl, by decide⟩
theorem ref_flag_err (S : Str) (e : Int) (he : e ≠ 0) : ∃ v, hawthornref03_At_Flag ⟨S, e⟩ = some (⟨S, e⟩, v) := by
  have h : (e == 0) = false := by simpa using he
  unfold hawthornref03_At_Flag
  rw [ref_bytes_err _ _ _ he, Option.bind_some]
  dsimp only
  rw [h, if_neg (by decide), Option.bind_some, if_neg (by decide), Option.bind_some, h, if_neg (by decide)]
  exact ⟨_, rfl⟩
theorem rstep_err (x : Stp) (S : Str) (e : Int) (he : e ≠ 0) : rstep x ⟨S, e⟩ = some ⟨S, e⟩ := by
  obtain ⟨v1, e1⟩ := ref_num_err S e (toW x.N) he
  obtain ⟨v2, e2⟩ := ref_text_err S e x.N he
  obtain ⟨v3, e3⟩ := ref_flag_err S e he
  unfold rstep
  rw [e1, e2, e3, ref_bytes_err _ _ _ he, must_err _ _ _ he]
  simp only [Option.bind_some]
  split
  · rfl
  · split
    · rfl
    · split
      · rfl
      · split <;> rfl
abbrev RL := (Str × List Int) ⊕ ((wire_Reader × List Int) ⊕ (Int × (wire_Reader × List Int)))
theorem code_body (x : Stp) (c : Str) (w : List Int) (K : Str → Option RL) :
    (Option.bind (if (x.Kind == 0) then (wire_Reader_Num (⟨c⟩ : wire_Reader) (toW x.N)).bind fun r28 => sm r28 (fun (ra30 : UInt64 × wire_Reader) => some (Sum.inl ra30.2.s)) fun ((rn31, ro32) : Int × wire_Reader) => some (Sum.inr (Sum.inr (Sum.inr (rn31, (ro32, w))))) else Option.bind (if (x.Kind == 1) then (wire_Reader_Text (⟨c⟩ : wire_Reader) x.N).bind fun r41 => sm r41 (fun (ra43 : Str × wire_Reader) => some (Sum.inl ra43.2.s)) fun ((rn44, ro45) : Int × wire_Reader) => some (Sum.inr (Sum.inr (Sum.inr (Sum.inr (rn44, (ro45, w)))))) else Option.bind (if (x.Kind == 2) then (wire_Reader_Flag (⟨c⟩ : wire_Reader)).bind fun r54 => sm r54 (fun (ra56 : Bool × wire_Reader) => some (Sum.inl ra56.2.s)) fun ((rn57, ro58) : Int × wire_Reader) => some (Sum.inr (Sum.inr (Sum.inr (Sum.inr (Sum.inr (rn57, (ro58, w))))))) else Option.bind (if (x.Kind == 3) then (wire_Reader_Bytes (⟨c⟩ : wire_Reader) x.N).bind fun r67 => sm r67 (fun (ra69 : Str × wire_Reader) => some (Sum.inl ra69.2.s)) fun ((rn70, ro71) : Int × wire_Reader) => some (Sum.inr (Sum.inr (Sum.inr (Sum.inr (Sum.inr (Sum.inr (rn70, (ro71, w)))))))) else lt (wire_Reader_Must (⟨c⟩ : wire_Reader) x.OK) fun r73 => sm r73 (fun (ra75 : Unit) => some (Sum.inl c)) fun ((rn76, ro77) : Int × Unit) => some (Sum.inr (Sum.inr (Sum.inr (Sum.inr (Sum.inr (Sum.inr (rn76, ((⟨c⟩ : wire_Reader), w))))))))) fun (p60 : Str ⊕ (Str ⊕ (Str ⊕ (Str ⊕ ((Str × List Int) ⊕ ((wire_Reader × List Int) ⊕ (Int × (wire_Reader × List Int)))))))) => (match p60 with | Sum.inl q61 => some (Sum.inl q61) | Sum.inr r => some r)) fun (p47 : Str ⊕ (Str ⊕ (Str ⊕ ((Str × List Int) ⊕ ((wire_Reader × List Int) ⊕ (Int × (wire_Reader × List Int))))))) => (match p47 with | Sum.inl q48 => some (Sum.inl q48) | Sum.inr r => some r)) fun (p34 : Str ⊕ (Str ⊕ ((Str × List Int) ⊕ ((wire_Reader × List Int) ⊕ (Int × (wire_Reader × List Int)))))) => (match p34 with | Sum.inl q35 => some (Sum.inl q35) | Sum.inr r => some r)) fun (p17 : Str ⊕ ((Str × List Int) ⊕ ((wire_Reader × List Int) ⊕ (Int × (wire_Reader × List Int))))) => (match p17 with | Sum.inl q18 => K q18 | Sum.inr r => some r))
    = (cstep x c).bind fun r => match r with | .inl s => K s | .inr (e, o) => some (.inr (.inr (e, (o, w)))) := by
  unfold cstep
  by_cases h0 : (x.Kind == 0) = true
  · rw [if_pos h0, if_pos h0]
    cases wire_Reader_Num ⟨c⟩ (toW x.N) with
    | none => rfl
    | some r => rcases r with r | r <;> rfl
  rw [if_neg h0, if_neg h0]
  by_cases h1 : (x.Kind == 1) = true
  · rw [if_pos h1, if_pos h1]
    cases wire_Reader_Text ⟨c⟩ x.N with
    | none => rfl
    | some r => rcases r with r | r <;> rfl
  rw [if_neg h1, if_neg h1]
  by_cases h2 : (x.Kind == 2) = true
  · rw [if_pos h2, if_pos h2]
    cases wire_Reader_Flag ⟨c⟩ with
    | none => rfl
    | some r => rcases r with r | r <;> rfl
  rw [if_neg h2, if_neg h2]
  by_cases h3 : (x.Kind == 3) = true
  · rw [if_pos h3, if_pos h3]
    cases wire_Reader_Bytes ⟨c⟩ x.N with
    | none => rfl
    | some r => rcases r with r | r <;> rfl
  rw [if_neg h3, if_neg h3]
  cases x.OK <;> rfl
theorem apd8 (l : List Int) (x : Int) (h : l.length ≤ 1000) : apd 8 l [x] = some (l ++ [x]) := by
  unfold apd; rw [if_pos (by simp; omega)]
theorem reads_code (l : List Stp) (n f i : Nat) (c : Str) (w : List Int) (hi : i < n) (hn : n ≤ l.length) (hn2 : n ≤ 12) (hw : w.length ≤ 1000) :
    hawthornlaw03_WireReads_1_l0 (n : Int) l (f + 1) (i : Int) c w = (cstep l[i] c).bind fun r => match r with | .inl s => hawthornlaw03_WireReads_1_l0 (n : Int) l f ((i + 1 : Nat) : Int) s (w ++ [(s.length : Int)]) | .inr (e, o) => some (.inr (.inr (e, (o, w)))) := by
  conv => lhs; unfold hawthornlaw03_WireReads_1_l0
  have g : gi l (i : Int) = some l[i] := by unfold gi; rw [if_pos (by omega)]; simp [show i < l.length by omega]
  have e1 : i64 ((i : Int) + 1) = ((i + 1 : Nat) : Int) := by rw [i64_id] <;> omega
  rw [if_pos (by simpa using hi), g, Option.bind_some, e1]
  refine Eq.trans (code_body l[i] c w (fun q18 => (apd 8 w [(wire_Reader_Left (⟨q18⟩ : wire_Reader))]).bind fun l24 => hawthornlaw03_WireReads_1_l0 (n : Int) l f ((i + 1 : Nat) : Int) q18 l24)) ?_
  generalize cstep l[i] c = z
  cases z with
  | none => rfl
  | some r =>
    rcases r with s | ⟨e, o⟩
    · rw [Option.bind_some, Option.bind_some]; dsimp only; rw [apd8 _ _ hw]; rfl
    · rfl
theorem reads_ref (l : List Stp) (n f i : Nat) (a : hawthornref03_At) (w : List Int) (hi : i < n) (hn : n ≤ l.length) (hn2 : n ≤ 12) :
    hawthornlaw03_WireReads_l1 l (n : Int) (f + 1) w (i : Int) a = (rstep l[i] a).bind fun a' => Option.bind (if (a'.Err == 0) then (apd 8 w [(a'.S.length : Int)]).bind fun l69 => some l69 else some w) fun p60 => hawthornlaw03_WireReads_l1 l (n : Int) f p60 ((i + 1 : Nat) : Int) a' := by
  conv => lhs; unfold hawthornlaw03_WireReads_l1
  have g : gi l (i : Int) = some l[i] := by unfold gi; rw [if_pos (by omega)]; simp [show i < l.length by omega]
  have e1 : i64 ((i : Int) + 1) = ((i + 1 : Nat) : Int) := by rw [i64_id] <;> omega
  rw [if_pos (by simpa using hi), g, Option.bind_some, e1]
  rfl
theorem reads_err (l : List Stp) (n : Nat) (hn : n ≤ l.length) (hn2 : n ≤ 12) (S : Str) (e : Int) (he : e ≠ 0) (w : List Int) : ∀ (f i : Nat), f = n - i + 1 → i ≤ n →
    hawthornlaw03_WireReads_l1 l (n : Int) f w (i : Int) ⟨S, e⟩ = some (w, ⟨S, e⟩) := by
  intro f
  induction f with
  | zero => intro i h; omega
  | succ f ih =>
    intro i hf hi
    by_cases h : i < n
    · rw [reads_ref l n f i _ w h hn hn2, rstep_err _ _ _ he, Option.bind_some, if_neg (by simpa using he), Option.bind_some]
      exact ih (i + 1) (by omega) (by omega)
    · unfold hawthornlaw03_WireReads_l1
      rw [if_neg (by simpa using h)]
/-- What the two loops come to. -/
def relL (r : RL) (w : List Int) (a : hawthornref03_At) : Prop := match r with
  | .inl (s, c) => a = ⟨s, 0⟩ ∧ w = c
  | .inr (.inl _) => False
  | .inr (.inr (e, (_, c))) => a.Err = e ∧ e ≠ 0 ∧ w = c
theorem reads_loop (l : List Stp) (n : Nat) (hn : n ≤ l.length) (hn2 : n ≤ 12) : ∀ (f i : Nat) (s : Str) (w : List Int), f = n - i + 1 → i ≤ n → w.length ≤ i →
    ∃ r w' a, hawthornlaw03_WireReads_1_l0 (n : Int) l f (i : Int) s w = some r ∧ hawthornlaw03_WireReads_l1 l (n : Int) f w (i : Int) ⟨s, 0⟩ = some (w', a) ∧ relL r w' a ∧ w'.length ≤ n := by
  intro f
  induction f with
  | zero => intro i s w h; omega
  | succ f ih =>
    intro i s w hf hi hw
    by_cases h : i < n
    · obtain ⟨r, a, e1, e2, e3⟩ := step_rel3 l[i] s
      rw [reads_code l n f i s w h hn hn2 (by omega), reads_ref l n f i _ w h hn hn2, e1, e2, Option.bind_some, Option.bind_some]
      rcases r with s' | ⟨e, o⟩
      · obtain rfl : a = _ := e3
        dsimp only
        rw [if_pos (by rfl), apd8 _ _ (by omega), Option.bind_some, Option.bind_some]
        exact ih (i + 1) s' _ (by omega) (by omega) (by simp; omega)
      · obtain ⟨e4, e5⟩ := e3
        obtain ⟨S, E⟩ := a
        obtain rfl : E = e := e4
        dsimp only
        rw [if_neg (by simpa using e5), Option.bind_some, reads_err l n hn hn2 S E e5 w f (i + 1) (by omega) (by omega)]
        exact ⟨_, _, _, rfl, rfl, ⟨rfl, e5, rfl⟩, by omega⟩
    · unfold hawthornlaw03_WireReads_1_l0 hawthornlaw03_WireReads_l1
      rw [if_neg (by simpa using h), if_neg (by simpa using h)]
      exact ⟨_, _, _, rfl, rfl, ⟨rfl, rfl⟩, by omega⟩
theorem reads_same (p : Int × List Int) (q : List Int × hawthornref03_At) (h : p.2 = q.1) (hl : q.1.length ≤ 1000) : ∀ (f i : Nat), f = q.1.length - i + 1 → i ≤ q.1.length → hawthornlaw03_WireReads_l0 p q f (i : Int) = some (.inl ()) := by
  intro f
  induction f with
  | zero => intro i h; omega
  | succ f ih =>
    intro i hf hi
    unfold hawthornlaw03_WireReads_l0
    by_cases hc : i < q.1.length
    · have g : gi q.1 (i : Int) = some q.1[i] := by unfold gi; rw [if_pos (by omega)]; simp [hc]
      rw [if_pos (by simpa using hc), h, g, Option.bind_some, Option.bind_some, if_neg (by simp), show i64 ((i : Int) + 1) = ((i + 1 : Nat) : Int) by rw [i64_id] <;> omega]
      exact ih (i + 1) (by omega) (by omega)
    · rw [if_neg (by simpa using hc)]
theorem WireReads (s : Str) (l : List Stp) {p q : Prop} (_ : sok s) (_ : p) (_ : q) : hawthornlaw03_WireReads s l = some true := by
  obtain ⟨t, ht, hl⟩ := few_some s
  obtain ⟨n, hn, hn1, hn2⟩ : ∃ n : Nat, (if decide ((12 : Int) < (l.length : Int)) then some (12 : Int) else some (l.length : Int)) = some (n : Int) ∧ n ≤ l.length ∧ n ≤ 12 := by
    by_cases h : 12 < l.length
    · exact ⟨12, by rw [if_pos (by simp; omega)]; rfl, by omega, by omega⟩
    · exact ⟨l.length, by rw [if_neg (by simp; omega)], by omega, by omega⟩
  obtain ⟨r, w, a, e1, e2, e3, e4⟩ := reads_loop l n hn1 hn2 (((n : Int) - 0).toNat + 1) 0 t [] (by omega) (by omega) (by simp)
  have e1' : hawthornlaw03_WireReads_1_l0 (n : Int) l (((n : Int) - 0).toNat + 1) 0 t [] = some r := e1
  have e2' : hawthornlaw03_WireReads_l1 l (n : Int) (((n : Int) - 0).toNat + 1) [] 0 ⟨t, 0⟩ = some (w, a) := e2
  have key : ∃ e, (Option.bind (hawthornlaw03_WireReads_1 ⟨t⟩ (n : Int) l []) fun r10 => sm r10 (fun (ra99 : wire_Reader × List Int) => some ((if ra99.1.s == [] then (0 : Int) else 5), ra99.2)) fun ((rn100, ro101) : Int × (wire_Reader × List Int)) => some (rn100, ro101.2)) = some (e, w) ∧ hawthornref03_At_End a = e := by
    unfold hawthornlaw03_WireReads_1
    dsimp only
    rw [e1', Option.bind_some]
    rcases r with ⟨s', c⟩ | (z | ⟨e, o, c⟩)
    · obtain ⟨rfl, rfl⟩ := e3
      refine ⟨_, rfl, ?_⟩
      unfold hawthornref03_At_End
      cases s' <;> rfl
    · exact e3.elim
    · obtain ⟨e5, e6, rfl⟩ := e3
      refine ⟨_, rfl, ?_⟩
      unfold hawthornref03_At_End
      have : (a.Err == 0) = false := by rw [e5]; simpa using e6
      rw [this, Bool.false_and, if_neg (by decide), e5]
  obtain ⟨e, k1, k2⟩ := key
  have S := reads_same (e, w) (w, a) rfl (by dsimp only; omega) (((w.length : Int) - 0).toNat + 1) 0 (by dsimp only; omega) (by dsimp only; omega)
  have S' : hawthornlaw03_WireReads_l0 (e, w) (w, a) (((w.length : Int) - 0).toNat + 1) 0 = some (.inl ()) := S
  unfold hawthornlaw03_WireReads
  rw [ht, Option.bind_some, hn, Option.bind_some, ← Option.bind_assoc, k1, Option.bind_some, e2', Option.bind_some, awake_true, Option.bind_some, if_neg (by simp [k2])]
  dsimp only
  rw [S', Option.bind_some]
end Go.Proofs.Ytgnpffbgfmeinaa.Pure
