/-
  Regions in an open order in which several things are made. Nothing of a program stands here.
-/
import Derived.Test.YtlahbmoebbflbaaHwS
set_option linter.unusedSimpArgs false
set_option linter.unusedVariables false
namespace Go.Proofs.Ytlahbmoebbflbaa.Hw
open Go

/-- Whatever waits for one of the new ones, near or far, waits for all. -/
def trigM (n : Nat) (ms : List Nat) (fr : Fresh) : Bool :=
  (List.range n).all fun i => (fr.all fun p => !((ms.getD i 0).testBit p.1)) || fr.all fun p => (ms.getD i 0).testBit p.1
def quietG (ops : Array Oper) (ms effs : List Nat) (fr : Fresh) (S : List Nat) : List Nat :=
  (quietOf ops.size ms effs S).filter fun i => !(isFr fr i) && !(fr.any fun p => (ms.getD i 0).testBit p.1)
def effG (ops : Array Oper) (ms effs : List Nat) (fr : Fresh) (S : List Nat) : List Nat :=
  (effsOf ms effs S).filter fun i => !(fr.any fun p => (ms.getD i 0).testBit p.1)
section
variable {x : Cx} {ks : List KF} {ops : Array Oper} {effs S : List Nat} {V E0 : Env} {R : PH} {L : List HP} {fr : Fresh}
theorem stageG (hw : wfR 0 [] ops.toList = true) (hE : (effs.all fun e => Nat.blt e ops.size) = true) (hS : (S.all fun s => effs.any (Nat.beq s)) = true)
    (hN : (ops.toList.all fun o => match o.dst with | some d => Nat.blt d x.N | none => true) = true)
    (hfr : (fr.all fun p => Nat.blt p.1 ops.size && !(effs.any (Nat.beq p.1)) && (lk V p.1).isNone) = true) (hnd : decide (fr.map (·.1)).Nodup = true)
    (ms qs es : List Nat) (htr : trigM ops.size ms fr = true) (hms : masks ops.toList [] = ms) (hqs : quietG ops ms effs fr S = qs) (hes : effG ops ms effs fr S = es)
    (hq : QuietT x ops V E0 R L qs) (hf : FrOK x ops ks V E0 R fr) (he : EffT x ops ks effs fr S V E0 R L es)
    (ht : ∀ β, Stage x ops ks (effs ++ fr.map (·.1)) (S ++ fr.map (·.1)) (V ++ frV fr β) E0 R (frC fr β ++ L)) : StageF x ops ks effs fr S V E0 R L := by
  subst hqs; subst hes
  have hnd' : (fr.map (·.1)).Nodup := by simpa using hnd
  have hlt : ∀ {i : Nat} {o : Oper}, ops[i]? = some o → ∀ d, o.dst = some d → d < x.N := fun {i o} ho d hd => by
    have hm : o ∈ ops.toList := by
      rcases Nat.lt_or_ge i ops.size with h | h
      · rw [Array.getElem?_eq_getElem h] at ho; cases ho; simp
      · rw [Array.getElem?_eq_none h] at ho; cases ho
    have := List.all_eq_true.1 hN o hm
    rw [hd] at this
    simpa using this
  have hfi : ∀ p ∈ fr, p.1 < ops.size ∧ p.1 ∉ effs ∧ lk V p.1 = none := fun p hp => by
    have := List.all_eq_true.1 hfr p hp
    simp only [Bool.and_eq_true] at this
    refine ⟨by simpa using this.1.1, fun hm => ?_, by simpa using this.2⟩
    have h2 := this.1.2
    rw [any_beq.2 hm] at h2
    cases h2
  intro fuel
  induction fuel with
  | zero =>
    intro li a w β hsi hle hst
    by_cases hall : ∀ p ∈ fr, li.getD p.1 false = true
    · have e : frH fr li β = frC fr β := by
        unfold frH frC
        exact List.map_congr_left fun p hp => by rw [hall p hp]; rfl
      rw [e] at hst
      exact ht β 0 li a w (hsi.toSI hall fun p hp => (hfi p hp).2.1) hle (st_comm _ _ hst)
    · exfalso
      apply hall
      intro p hp
      cases hl : li.getD p.1 false with
      | true => rfl
      | false =>
        have : 0 < left ops.size li := List.countP_pos_iff.2 ⟨p.1, by simpa using (hfi p hp).1, by simp [hl]⟩
        omega
  | succ fuel ih =>
    intro li a w β hsi hle hst
    by_cases hall : ∀ p ∈ fr, li.getD p.1 false = true
    · have e : frH fr li β = frC fr β := by
        unfold frH frC
        exact List.map_congr_left fun p hp => by rw [hall p hp]; rfl
      rw [e] at hst
      exact ht β _ li a w (hsi.toSI hall fun p hp => (hfi p hp).2.1) hle (st_comm _ _ hst)
    have hnall : ∃ p ∈ fr, li.getD p.1 false = false := by
      apply Classical.byContradiction
      intro h
      apply hall
      intro p hp
      cases hl : li.getD p.1 false with
      | true => rfl
      | false => exact absurd ⟨p, hp, hl⟩ h
    obtain ⟨p0, hp0, hl0⟩ := hnall
    refine ⟨fun hr => ?_, fun i hm => ?_⟩
    · have := ready_none hw hsi.sz hr p0.1 (hfi p0 hp0).1
      rw [hl0] at this; cases this
    obtain ⟨o, ho, h1, hp⟩ := ready_mem hm
    have hi : i < ops.size := by
      rcases Nat.lt_or_ge i ops.size with h | h
      · exact h
      · rw [Array.getElem?_eq_none h] at ho; cases ho
    have hi' : i < li.size := by rw [hsi.sz]; exact hi
    have hnot : li.getD i false = false := by
      rw [Array.getD_eq_getD_getElem?, Array.getElem?_eq_getElem hi'] at h1 ⊢
      simpa using h1
    have hleft : left ops.size (li.setIfInBounds i true) ≤ fuel := by
      have : left ops.size (li.setIfInBounds i true) < left ops.size li := countP_lt (k := i) (fun j hj => by
        rw [getD_set hi'] at hj
        split at hj
        · simp at hj
        · exact hj) (by simpa using hi) (by rw [getD_set hi']; simp) (by simp [hnot])
      omega
    have hturn : turn ms effs S i = true := by
      unfold turn
      refine List.all_eq_true.2 fun e he' => ?_
      cases hc : (ms.getD i 0).testBit e with
      | false => rfl
      | true => simpa using any_beq.2 ((hsi.eff e he').1 (anc_ready hsi.clo ho hp (masks_get hms hc)))
    have hnop : (fr.any fun p => (ms.getD i 0).testBit p.1) = false := by
      cases hc : (fr.any fun p => (ms.getD i 0).testBit p.1) with
      | false => rfl
      | true =>
        exfalso
        obtain ⟨p, hpm, hpb⟩ := List.any_eq_true.1 hc
        have h2 := List.all_eq_true.1 htr i (List.mem_range.2 hi)
        rw [Bool.or_eq_true] at h2
        rcases h2 with h2 | h2
        · have := List.all_eq_true.1 h2 p hpm
          rw [hpb] at this; cases this
        · have := anc_ready hsi.clo ho hp (masks_get hms (List.all_eq_true.1 h2 p0 hp0))
          rw [hl0] at this; cases this
    have hfr' := hsi.fr_ ho hnot hp
    unfold wpOp
    rw [ho]
    dsimp only
    by_cases hmem : i ∈ effs
    · have hnS : i ∉ S := fun h => by rw [(hsi.eff i hmem).2 h] at hnot; cases hnot
      have hnf : isFr fr i = false := by
        cases hc : isFr fr i with
        | false => rfl
        | true => obtain ⟨p, hp, e⟩ := isFr_mem.1 hc; subst e; exact absurd hmem (hfi p hp).2.1
      have hin : i ∈ effG ops ms effs fr S := by
        unfold effG effsOf
        refine List.mem_filter.2 ⟨List.mem_filter.2 ⟨hmem, ?_⟩, by rw [hnop]; rfl⟩
        rw [hturn, Bool.and_true, Bool.not_eq_true', Bool.eq_false_iff]
        exact fun h => hnS (any_beq.1 h)
      obtain ⟨o', v, R', L', ho', hR, hos, hnext⟩ := he.get i hin
      rw [ho] at ho'; cases ho'
      refine hos _ a w _ hfr' hst fun u R1 L1 w' _ hC hs' => ?_
      obtain ⟨h1, h2, h3⟩ := hC
      subst h1; subst h2; subst h3
      refine hnext fuel _ _ w' β (hsi.next hw ho hnot hp _ (.inr ⟨hnf, by simp [lk]⟩) (fun _ _ => rfl) ?_ ?_ ?_ (hlt ho)) hleft (by rw [frH_set hi' hnf]; exact hs')
      · intro j u' hj hl
        simp only [lk] at hl
        cases hji : Nat.beq i j with
        | true => have := Nat.eq_of_beq_eq_true hji; subst this; rw [hnot] at hj; cases hj
        | false => rw [hji, cond_false] at hl; exact hl
      · intro j hj
        rcases hsi.cov j hj with h | h
        · exact .inl h
        · right
          simp only [lk]
          cases Nat.beq i j with
          | true => simp
          | false => exact h
      · intro e _; simp
    · cases hnf : isFr fr i with
      | true =>
        obtain ⟨p, hpm, rfl⟩ := isFr_mem.1 hnf
        obtain ⟨o', ho', hos⟩ := hf.get p hpm
        rw [ho] at ho'; cases ho'
        refine hos _ a w _ hfr' hst fun u R1 L1 w' _ hC hs' => ?_
        obtain ⟨h2, h3⟩ := hC
        subst h2; subst h3
        refine ih _ _ w' (fun j => if j = p.1 then u else β j) (hsi.next hw ho hnot hp u (.inl ⟨hnf, by simp, (hfi p hpm).2.2⟩) (fun j hj => by simp [hj]) (fun _ _ _ h => h) hsi.cov ?_ (hlt ho)) hleft
          (frH_add hi' hnot hnd' L hpm rfl hs')
        intro e he
        constructor
        · exact .inr
        · rintro (h | h)
          · subst h; exact absurd he hmem
          · exact h
      | false =>
        have hin : i ∈ quietG ops ms effs fr S := by
          unfold quietG quietOf
          refine List.mem_filter.2 ⟨List.mem_filter.2 ⟨by simpa using hi, ?_⟩, by rw [hnop, hnf]; rfl⟩
          rw [hturn, Bool.and_true, Bool.and_eq_true]
          refine ⟨by rw [Bool.not_eq_true', Bool.eq_false_iff]; exact fun h => hmem (any_beq.1 h), ?_⟩
          rw [Bool.not_eq_true', Bool.eq_false_iff]
          intro h
          unfold surely at h
          obtain ⟨s, hs, hso⟩ := List.any_eq_true.1 h
          have hse := any_beq.1 (List.all_eq_true.1 hS s hs)
          have := anc_listed hsi.clo ((hsi.eff s hse).2 hs) (masks_get hms hso)
          rw [hnot] at this; cases this
        obtain ⟨o', v, ho', hv, hos⟩ := hq.get i hin
        rw [ho] at ho'; cases ho'
        refine hos _ a w _ _ hfr' hst trivial fun w' hs' => ?_
        refine ih _ _ w' β (hsi.next hw ho hnot hp v (.inr ⟨hnf, hv⟩) (fun _ _ => rfl) (fun j u _ h => h) hsi.cov ?_ (hlt ho)) hleft (by rw [frH_set hi' hnf]; exact hs')
        intro e he
        constructor
        · exact .inr
        · rintro (h | h)
          · subst h; exact absurd he hmem
          · exact h


theorem fnil : FrOK x ops ks V E0 R [] := trivial
theorem fcons {p : Nat × (Value → HP)} {r : Fresh} {o : Oper} (ho : ops[p.1]? = some o) (h : ∀ A, OSW x ops ks o (envD ops V E0 p.1) R A (fun u R1 L1 => R1 = R ∧ L1 = p.2 u :: A)) (k : FrOK x ops ks V E0 R r) :
    FrOK x ops ks V E0 R (p :: r) := ⟨⟨o, ho, h⟩, k⟩
theorem osw_new {o : Oper} {E : Env} {A : List HP} {T : Nat} {cs : List Value} (h : OSW x ops ks o E R A (New R A T cs)) : OSW x ops ks o E R A (fun u R1 L1 => R1 = R ∧ L1 = FB T cs u :: A) :=
  fun a' w K hf hs kk => h a' w K hf hs fun v R' L' w' hR hC hs' => by
    obtain ⟨b, h1, h2, h3⟩ := hC
    subst h1; subst h2; subst h3
    exact kk _ _ _ w' hR ⟨rfl, rfl⟩ (st_wk (fun _ hk => ⟨b, rfl, hk⟩) hs')
end
end Go.Proofs.Ytlahbmoebbflbaa.Hw
