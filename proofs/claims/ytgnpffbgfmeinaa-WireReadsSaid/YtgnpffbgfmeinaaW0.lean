import Derived.Test.YtgnpffbgfmeinaaFacts
import Derived.Test.YtgnpffbgfmeinaaHwT
set_option linter.unusedVariables false
set_option linter.unusedSectionVars false
set_option linter.unusedSimpArgs false
set_option maxRecDepth 100000
set_option maxHeartbeats 8000000
namespace Go.Proofs.Ytgnpffbgfmeinaa
open Go Go.Proofs.Ytgnpffbgfmeinaa.Hw
theorem noEsc (v : Value) (w : World) : (callFunc 88 #[v]).run Try.prog w = .ok (.value v) w := by
  rw [run_callFunc_extern Try.func88 (by kernel_rfl) (by kernel_rfl) (by kernel_rfl) (e := Extern.AbiNoEscape.same) (by kernel_rfl), Lib.run_noEscape]
  rfl
theorem infoB : ∃ j, Try.prog.info? 91 = some j ∧ j.size ≠ 0 := ⟨_, rfl, by decide⟩
theorem bld_copyCheck.ok {G R F} (b : Nat) (p v : Value) (hp : p = nl ∨ p = pt b 0) : CO Try.prog 85 [pt b 0] G R (Blk b (.cells (List.toArray [p, v]) 91 (0, 0)) :: F)
    (Ret fun u R' L' => u = .tuple #[] ∧ R' = R ∧ L' = Blk b (.cells (List.toArray [pt b 0, v]) 91 (0, 0)) :: F) := by
  obtain ⟨j, hj, hj0⟩ := infoB
  refine co_ofN (N := 20) Try.func85 rfl rfl ?_
  refine c_seq ?_
  refine c_reg ?_
  refine r_u (o_mv rfl) ?_
  refine r_u (o_nc rfl) ?_
  refine r_u (o_fa fa91_0 rfl) ?_
  refine r_u (o_ld 0 sc89 rfl rfl rfl) ?_
  rcases hp with rfl | rfl
  · refine r_u (o_bin rfl rfl (bP_eqn Try.underlying89)) ?_
    refine r_nil ?_
    refine x_seq ?_
    refine c_tt rfl ?_
    refine c_reg ?_
    refine r_u (o_mv rfl) ?_
    refine r_u (o_mv rfl) ?_
    refine r_u (o_tu 0 Try.underlying89 Try.underlying116 hj hj0 rfl rfl rfl) ?_
    refine r_u (o_same noEsc rfl) ?_
    refine r_u (o_fu 0 Try.underlying116 Try.underlying89 hj rfl rfl (by kernel_rfl)) ?_
    refine r_u (o_nc rfl) ?_
    refine r_u (o_fa fa91_0 rfl) ?_
    refine r_u0 (o_st sc89 rfl rfl rfl rfl rfl rfl) ?_
    refine r_nil ?_
    refine x_end ?_
    exact x_r0 rfl (Le.refl _) ⟨_, rfl, rfl, rfl, rfl⟩
  · refine r_u (o_bin rfl rfl (bP_eqp Try.underlying89)) ?_
    refine r_nil ?_
    refine x_seq ?_
    refine c_ff rfl ?_
    refine c_seq ?_
    refine c_reg ?_
    refine r_u (o_mv rfl) ?_
    refine r_u (o_nc rfl) ?_
    refine r_u (o_fa fa91_0 rfl) ?_
    refine r_u (o_ld 0 sc89 rfl rfl rfl) ?_
    refine r_u (o_mv rfl) ?_
    refine r_u (o_bin rfl rfl (bP_same Try.underlying89 hj)) ?_
    refine r_nil ?_
    refine x_seq ?_
    refine c_ff rfl ?_
    refine c_skip ?_
    refine x_end ?_
    exact x_r0 rfl (Le.refl _) ⟨_, rfl, rfl, rfl, rfl⟩

theorem bld_WriteByte.ok {G R F} (b : Nat) (s : Str) (c : UInt8) (r : Str) (hm : apd 1 s [c] = some r) : CO Try.prog 69 [pt b 0, vY c] G R (Bld 91 5 b s :: F)
    (Ret fun u R' L' => u = .nilIface ∧ R' = R ∧ L' = Bld 91 5 b r :: F) := by
  refine co_ofN (N := 17) Try.func69 rfl rfl ?_
  refine bld_open_cd fun p v hp hv => ?_
  refine c_seq ?_
  refine c_reg ?_
  refine r_u (o_as rfl) ?_
  refine r_nil ?_
  refine x_seq ?_
  refine c_seq ?_
  refine c_reg ?_
  refine r_u (o_mv rfl) ?_
  refine r_c (s_w (o_call ca85 rfl (bld_copyCheck.ok b p v hp))) ?_
  refine r_nil ?_
  refine x_seq ?_
  refine c_seq ?_
  refine c_reg ?_
  refine r_u (o_mv rfl) ?_
  refine r_u (o_mv rfl) ?_
  refine r_u (o_nc rfl) ?_
  refine r_u (o_fa fa91_1 rfl) ?_
  refine r_u (o_ld 0 sc40 rfl rfl rfl) ?_
  refine r_u (o_mv rfl) ?_
  refine r_sw (s_w (o_bsl (en := eY) (sz := 1) (e := 5) (cs := [vY c]) (r := [c]) rfl (fun _ => by kernel_rfl) rfl (by decide) rfl (fun _ => rfl))) ?_
  rintro v2 _ _ _ ⟨rfl, rfl⟩
  refine rl_st (fun _ h => st_pk 3 [2, 0, 1] (by decide) h) ?_
  refine r_sw (s_w (o_ap (sz := 1) (bytes := 1) 0 Try.underlying40 rfl rfl rfl rfl rfl (by decide) (by decide) (fun _ _ _ h => by simp at h; subst h; rfl) (fun _ => rfl) rfl rfl rfl rfl (Nat.succ_pos _) hm)) ?_
  rintro v3 _ _ _ ⟨rfl, rfl⟩
  refine r_u (o_nc rfl) ?_
  refine r_u (o_fa fa91_1 rfl) ?_
  refine rl_st (fun _ h => st_pk 3 [2, 0] (by decide) h) ?_
  refine r_u0 (o_stS 1 sc40 rfl rfl rfl rfl rfl rfl) ?_
  refine r_nil ?_
  refine x_seq ?_
  refine c_seq ?_
  refine c_reg ?_
  refine r_u (o_as rfl) ?_
  refine r_nil ?_
  refine x_seq ?_
  refine c_ret ?_
  refine ex_st (fun _ h => bld_close (.inr rfl) (fun e => by unfold apd at hm; split at hm <;> simp_all) h) ?_
  exact x_r1 rfl (rv_t rfl) (Le.refl _) ⟨_, rfl, rfl, rfl, rfl⟩

theorem bld_String.ok {G R F} (b : Nat) (s : Str) : CO Try.prog 70 [pt b 0] G R (Bld 91 5 b s :: F)
    (Ret fun u R' L' => u = vS s ∧ R' = R ∧ L' = F) := by
  refine co_ofN (N := 14) Try.func70 rfl rfl ?_
  refine bld_open_cd fun p v hp hv => ?_
  refine c_seq ?_
  refine c_reg ?_
  refine r_u (o_as rfl) ?_
  refine r_nil ?_
  refine x_seq ?_
  refine c_seq ?_
  by_cases hs : s = []
  · obtain rfl := hv hs
    subst hs
    refine c_any mixed (effs := []) (V := []) ?_
    refine stage_ext [(0, pt b 0), (1, pt b 0), (2, pt b 1), (3, .slice none 0 0), (4, nl), (5, pt b 0), (6, pt b 0), (7, pt b 1), (8, .slice none 0 0), (9, vI 0), (10, vS []), (11, vS [])] rfl ?_
    refine stage rfl rfl rfl rfl [0, 1, 3, 7, 15, 0, 32, 96, 224, 480, 1023, 2047] [0, 1, 2, 3, 4, 5, 6, 7, 8, 9, 10, 11] [] rfl rfl rfl (qc rfl rfl (s_u (o_mv rfl)) (qc rfl rfl (s_u (o_nc rfl)) (qc rfl rfl (s_u (o_fa fa91_1 rfl)) (qc rfl rfl (s_u (o_ld 0 sc40 rfl rfl rfl)) (qc rfl rfl (s_u (o_sdn rfl)) (qc rfl rfl (s_u (o_mv rfl)) (qc rfl rfl (s_u (o_nc rfl)) (qc rfl rfl (s_u (o_fa fa91_1 rfl)) (qc rfl rfl (s_u (o_ld 0 sc40 rfl rfl rfl)) (qc rfl rfl (s_u (o_lenN Try.underlying40 rfl)) (qc rfl rfl (s_u (o_usn rfl rfl)) (qc rfl rfl (s_u (o_as rfl)) qn)))))))))))) en ?_
    intro _
    refine ex_sub (E' := [(2, vS [])]) ⟨rfl, trivial⟩ ?_
    refine x_seq ?_
    refine c_ret ?_
    refine ex_st (fun _ h => st_pk 2 [] (by decide) h) ?_
    exact x_r1 rfl (rv_t rfl) (Le.refl _) ⟨_, rfl, rfl, rfl, rfl⟩
  · refine c_any mixed (effs := [10]) (V := []) ?_
    refine stage_ext [(0, pt b 0), (1, pt b 0), (2, pt b 1), (3, v), (4, pt (sb v) 0), (5, pt b 0), (6, pt b 0), (7, pt b 1), (8, v), (9, vI s.length)] rfl ?_
    refine stage_st (fun _ h => st_pk 2 [1, 0] (by decide) h) ?_
    refine stage rfl rfl rfl rfl [0, 1, 3, 7, 15, 0, 32, 96, 224, 480, 1023, 2047] [0, 1, 2, 3, 4, 5, 6, 7, 8, 9] [10] rfl rfl rfl (qc rfl rfl (s_u (o_mv rfl)) (qc rfl rfl (s_u (o_nc rfl)) (qc rfl rfl (s_u (o_fa fa91_1 rfl)) (qc rfl rfl (s_u (o_ld 1 sc40 rfl rfl rfl)) (qc rfl rfl (s_u (o_sd 0 rfl rfl hs)) (qc rfl rfl (s_u (o_mv rfl)) (qc rfl rfl (s_u (o_nc rfl)) (qc rfl rfl (s_u (o_fa fa91_1 rfl)) (qc rfl rfl (s_u (o_ld 1 sc40 rfl rfl rfl)) (qc rfl rfl (s_u (o_lenO 0 Try.underlying40 rfl rfl)) qn)))))))))) ?_ (fun h => absurd h (by decide))
    refine ec (eo_u rfl (s_u (o_us Try.underlying112 (by kernel_rfl) rfl rfl rfl hs)) (Le.refl _) ?_) en
    refine stage_ext [(11, vS s)] rfl ?_
    refine stage rfl rfl rfl rfl [0, 1, 3, 7, 15, 0, 32, 96, 224, 480, 1023, 2047] [11] [] rfl rfl rfl (qc rfl rfl (s_u (o_as rfl)) qn) en ?_
    intro _
    refine ex_sub (E' := [(2, vS s)]) ⟨rfl, trivial⟩ ?_
    refine x_seq ?_
    refine c_ret ?_
    refine ex_st (fun _ h => st_pk 1 [] (by decide) h) ?_
    exact x_r1 rfl (rv_t rfl) (Le.refl _) ⟨_, rfl, rfl, rfl, rfl⟩
theorem catch_pan {G : World} {R : PH} {L : List HP} {b : Nat} {n x : Int} {w : World} (hs : St G R (Blk b (.cells (List.toArray [vI x]) 23 (0, 0)) :: L) w) :
    CallsD Try.prog 74 #[pt b 0] (.panicking (pch 99 n)) w fun e u' w' => (∃ v, e = .returned v) ∧ u' = .panicking [{ v := .iface 99 (.agg #[vI n]), recovered := true }] ∧ St G R (Blk b (.cells (List.toArray [vI n]) 23 (0, 0)) :: L) w' := by
  refine callsD_of_wpS Try.func74 rfl fun c₀ cs hu => ?_
  apply wpS_seq
  refine wpS_rec (v := .iface 99 (.agg #[vI n])) (cs' := { c₀ with mode := .panicking [{ v := .iface 99 (.agg #[vI n]), recovered := true }] } :: cs) (by simp [recoverD, hu, pch]) ?_
  refine wpS_cd (N := 12) (E := [(4, .iface 99 (.agg #[vI n])), (0, pt b 0)]) (C := fun u R' L' => u = .tuple #[] ∧ R' = R ∧ L' = Blk b (.cells (List.toArray [vI n]) 23 (0, 0)) :: L) ?_ ((Fr.enter [pt b 0] 12).put (by simp) _) hs ?_
  · refine c_blk ?_
    refine c_seq ?_
    refine c_reg ?_
    refine r_u (o_bin (v := vB false) rfl rfl (fun _ _ _ => by kernel_rfl)) ?_
    refine r_nil ?_
    refine x_seq ?_
    refine c_ff rfl ?_
    refine c_seq ?_
    refine c_reg ?_
    refine r_u (o_ta (v := .tuple #[.agg #[vI n], .bool true]) rfl (fun _ => by kernel_rfl)) ?_
    refine r_u (o_ext rfl rfl) ?_
    refine r_u (o_ext rfl rfl) ?_
    refine r_nil ?_
    refine x_seq ?_
    refine c_tt rfl ?_
    refine c_seq ?_
    refine c_reg ?_
    refine r_new (o_al ze99) fun b2 => ?_
    refine r_u0 (o_stn ag99 rfl rfl rfl rfl rfl rfl rfl) ?_
    refine r_nil ?_
    refine x_seq ?_
    refine c_reg ?_
    refine r_u (o_fa fa99_0 rfl) ?_
    refine r_u (o_ld 0 sc23 rfl rfl rfl) ?_
    refine rl_st (fun _ h => st_pk 2 [1, 0] (by decide) h) ?_
    refine r_u0 (o_st sc23 rfl rfl rfl rfl rfl rfl) ?_
    refine r_nil ?_
    refine x_blk ?_
    refine x_end ?_
    refine ex_st (fun _ h => st_pk 2 [0] (by decide) h) ?_
    exact x_r0 rfl (Le.refl _) ⟨_, rfl, rfl, rfl, rfl⟩
  · rintro v w' R' L' _ ⟨rfl, rfl, rfl⟩ hst
    exact ⟨⟨_, rfl⟩, rfl, hst⟩
theorem catch_no {G : World} {R : PH} {L : List HP} {b : Nat} {w : World} (hs : St G R L w) :
    CallsD Try.prog 74 #[pt b 0] .returning w fun e u' w' => (∃ v, e = .returned v) ∧ u' = .returning ∧ St G R L w' := by
  refine callsD_of_wpS Try.func74 rfl fun c₀ cs hu => ?_
  apply wpS_seq
  refine wpS_rec0 (by simp [recoverD, hu]) ?_
  have e0 : c₀ = { c₀ with mode := .returning } := by cases c₀; simp_all
  refine wpS_cd (N := 12) (E := [(4, .nilIface), (0, pt b 0)]) (C := fun u R' L' => u = .tuple #[] ∧ R' = R ∧ L' = L) (u1 := .returning) ?_ ((Fr.enter [pt b 0] 12).put (by simp) _) hs ?_ e0
  · refine c_blk ?_
    refine c_seq ?_
    refine c_reg ?_
    refine r_u (o_binc (r := vB true) rfl rfl (fun _ => by kernel_rfl)) ?_
    refine r_nil ?_
    refine x_seq ?_
    refine c_tt rfl ?_
    refine c_reg ?_
    refine r_u (o_as rfl) ?_
    refine r_nil ?_
    refine x_blk ?_
    refine x_end ?_
    exact x_r0 rfl (Le.refl _) ⟨_, rfl, rfl, rfl, rfl⟩
  · rintro v w' R' L' _ ⟨rfl, rfl, rfl⟩ hst
    exact ⟨⟨_, rfl⟩, rfl, hst⟩

/-- The end of wire.Read, behind a deferred call that found nothing. -/
theorem read_leaves {G : World} {R : PH} {M : List HP} {b : Nat} {n : Int} {w : World} {tmps : Array Value} {K : Ending → PH → List HP → Prop} {q : HP}
    (ht : tmps[4]? = some (pt b 0)) (hs : St G R (Blk b (.cells (List.toArray [vI n]) 23 (0, 0)) :: q :: M) w) (hK : K (.returned (vI n)) R M) :
    Leaves Try.prog Try.f27 tmps (Post G R K) [{ target := .fn (.func 74) #[pt b 0], args := #[] }] .returning w := by
  refine leaves_cons (f := 74) (args := #[pt b 0]) (by simp) (by simp [go_sem]) ?_
  refine (catch_no hs).mono ?_
  rintro e u' w'' ⟨⟨v, rfl⟩, rfl, h⟩
  have hb := h.blk (i := 0) rfl
  have hc : w''.cell? ⟨b, 0, none⟩ = some (vI n) := by simp [World.cell?, hb]
  have ht' : tmps.getD 4 undef = pt b 0 := by simp [Array.getD_eq_getD_getElem?, ht]
  refine ⟨vI n, ?_, R, M, Le.refl _, hK, h.drop.drop⟩
  simp [results, Try.results27, ht, ht', go_sem, hc]
theorem read_panics {G : World} {R : PH} {M : List HP} {b : Nat} {x n : Int} {w : World} {tmps : Array Value} {K : Ending → PH → List HP → Prop} {q : HP}
    (ht : tmps[4]? = some (pt b 0)) (hs : St G R (Blk b (.cells (List.toArray [vI x]) 23 (0, 0)) :: q :: M) w) (hK : K (.returned (vI n)) R M) :
    Leaves Try.prog Try.f27 tmps (Post G R K) [{ target := .fn (.func 74) #[pt b 0], args := #[] }] (.panicking (pch 99 n)) w := by
  refine leaves_cons (f := 74) (args := #[pt b 0]) (by simp) (by simp [go_sem]) ?_
  refine (catch_pan (n := n) hs).mono ?_
  rintro e u' w'' ⟨⟨v, rfl⟩, rfl, h⟩
  have hb := h.blk (i := 0) rfl
  have hc : w''.cell? ⟨b, 0, none⟩ = some (vI n) := by simp [World.cell?, hb]
  have ht' : tmps.getD 4 undef = pt b 0 := by simp [Array.getD_eq_getD_getElem?, ht]
  refine ⟨vI n, ?_, R, M, Le.refl _, hK, h.drop.drop⟩
  simp [results, Try.results27, ht, ht', go_sem, hc]

theorem wire_Read.okL {G : World} {R : PH} {A M : List HP} {F : List HP} {s s' : Str} {fc : Nat} {caps : List Value}
    (hc : Ca Try.prog fc)
    (h : ∀ b F, CO Try.prog fc (pt b 0 :: caps) G R (Blk b (.cells (List.toArray [vS s]) 101 (0, 0)) :: (A ++ F)) (PRet 99 (fun u R' L' => u = .tuple #[] ∧ R' = R ∧ L' = Blk b (.cells (List.toArray [vS s']) 101 (0, 0)) :: (M ++ F)) fun _ _ _ => False)) :
    CO Try.prog 27 [vS s, .func (.func fc) #[] caps.toArray] G R (A ++ F) (Ret fun u R' L' => u = vI (if s' == [] then 0 else 5) ∧ R' = R ∧ L' = M ++ F) := by
  intro w hs
  have hmf : ∀ (fn : Fn) (first cap : Array Value) (w : World), (Instr.makeFunc fn first cap).run Try.prog w = .ok (.func fn first cap) w := fun _ _ _ _ => rfl
  have hst : St G R (Blk (w.heap.size + 1) (.cells (List.toArray [vS s]) 101 (0, 0)) :: Blk w.heap.size (.cells (List.toArray [vI 0]) 23 (0, 0)) :: (A ++ F)) ((w.alloc (.cells #[Value.int .i64 0] 23)).alloc (.cells #[vS s] 101)) := by
    have h1 := hs.alloc (.cells #[Value.int .i64 0] 23)
    have h2 := h1.alloc (.cells #[vS s] 101)
    simpa [vI] using h2
  have hst2 := st_mid hst
  have hcall := h (w.heap.size + 1) _ _ hst2
  unfold vS at *
  go_enter_defers Try.func27, Try.ntmps27
  go_wp2
  rw [hc]
  simp only [Oper.upon]
  refine hcall.mono ?_
  rintro e w' ⟨R', L', hR, hq | ⟨n, rfl, hn⟩, hst'⟩
  case inr => exact hn.elim
  obtain ⟨v, rfl, rfl, rfl, rfl⟩ := hq
  have st3 := st_mid' hst'
  have hb0 := st3.blk (i := 0) rfl
  have hb1 := st3.blk (i := 1) rfl
  have hc1 : w'.cell? ⟨w.heap.size + 1, 0, none⟩ = some (.string ⟨s'.toArray⟩) := by simp [World.cell?, hb1]
  have hc0 : w'.cell? ⟨w.heap.size, 0, none⟩ = some (.int .i64 0) := by simp [World.cell?, hb0, vI]
  have hf0 : w'.frozen? ⟨w.heap.size, 0, none⟩ = false := by simp [World.frozen?, hb0]
  by_cases hs' : s' = []
  · subst hs'
    go_wp2
    exact read_leaves rfl (st3.upd (upd_set hb0)) ⟨_, rfl, rfl, rfl, rfl⟩
  · have hne : (s' == []) = false := by simpa using hs'
    have hie : s'.isEmpty = false := by simpa using hs'
    go_wp2
    all_goals first | exact read_leaves rfl (st3.upd (upd_set hb0)) ⟨_, rfl, by simp, rfl, rfl⟩ | exact read_leaves rfl (st3.upd (upd_set hb0)) ⟨_, rfl, by simp [hne], rfl, rfl⟩ | (exfalso; simp_all; done)
theorem wire_Read.okR {G : World} {R : PH} {A M : List HP} {F : List HP} {s : Str} {cs : List Value} {n0 : Int} {fc : Nat} {caps : List Value}
    (hc : Ca Try.prog fc)
    (h : ∀ b F, CO Try.prog fc (pt b 0 :: caps) G R (Blk b (.cells (List.toArray [vS s]) 101 (0, 0)) :: (A ++ F)) (PRet 99 (fun _ _ _ => False) fun n R' L' => n = n0 ∧ R' = R ∧ L' = Blk b (.cells (List.toArray cs) 101 (0, 0)) :: (M ++ F))) :
    CO Try.prog 27 [vS s, .func (.func fc) #[] caps.toArray] G R (A ++ F) (Ret fun u R' L' => u = vI n0 ∧ R' = R ∧ L' = M ++ F) := by
  intro w hs
  have hmf : ∀ (fn : Fn) (first cap : Array Value) (w : World), (Instr.makeFunc fn first cap).run Try.prog w = .ok (.func fn first cap) w := fun _ _ _ _ => rfl
  have hst : St G R (Blk (w.heap.size + 1) (.cells (List.toArray [vS s]) 101 (0, 0)) :: Blk w.heap.size (.cells (List.toArray [vI 0]) 23 (0, 0)) :: (A ++ F)) ((w.alloc (.cells #[Value.int .i64 0] 23)).alloc (.cells #[vS s] 101)) := by
    have h1 := hs.alloc (.cells #[Value.int .i64 0] 23)
    have h2 := h1.alloc (.cells #[vS s] 101)
    simpa [vI] using h2
  have hst2 := st_mid hst
  have hcall := h (w.heap.size + 1) _ _ hst2
  unfold vS at *
  go_enter_defers Try.func27, Try.ntmps27
  go_wp2
  rw [hc]
  simp only [Oper.upon]
  refine hcall.mono ?_
  rintro e w' ⟨R', L', hR, ⟨v, rfl, hn⟩ | ⟨n, rfl, rfl, rfl, rfl⟩, hst'⟩
  case inl => exact hn.elim
  exact read_panics rfl (st_mid' hst') ⟨_, rfl, rfl, rfl, rfl⟩
structure wire_Reader where
  s : Str
  deriving DecidableEq, Inhabited
def wire_Reader.c (x : wire_Reader) : List _root_.Go.Value := [vS x.s]
structure wire_bad where
  e : Int
  deriving DecidableEq, Inhabited
def wire_bad.c (x : wire_bad) : List _root_.Go.Value := [vI x.e]
structure hawthornref03_At where
  S : Str
  Err : Int
  deriving DecidableEq, Inhabited
def hawthornref03_At.c (x : hawthornref03_At) : List _root_.Go.Value := [vS x.S, vI x.Err]
structure hawthornlaw03_Step where
  Kind : Int
  N : Int
  OK : Bool
  deriving DecidableEq, Inhabited
def hawthornlaw03_Step.c (x : hawthornlaw03_Step) : List _root_.Go.Value := [vI x.Kind, vI x.N, vB x.OK]


def hawthornlaw03_few (a0 : Str) : Option Str :=
  if decide (300 < (a0.length : Int)) then (sl a0 0 300).bind fun s2 => some s2 else some a0
theorem hawthornlaw03_few.ok {G R F} (a0 : Str) (r : Str) (hm : hawthornlaw03_few a0 = some r) : CO Try.prog 15 [vS a0] G R (F)
    (Ret fun u R' L' => u = vS r ∧ R' = R ∧ L' = F) := by
  unfold hawthornlaw03_few at hm
  refine co_ofN (N := 9) Try.func15 rfl rfl ?_
  refine c_seq ?_
  refine c_reg ?_
  refine r_u (o_as rfl) ?_
  refine r_nil ?_
  refine x_seq ?_
  refine c_seq ?_
  refine c_seq ?_
  refine c_reg ?_
  refine r_u (o_mv rfl) ?_
  refine r_u (o_lenS Try.underlying9 rfl) ?_
  refine r_u (o_bin rfl rfl (bI_gt (a0.length : Int) 300)) ?_
  refine r_nil ?_
  refine x_seq ?_
  refine c_if (b := decide (300 < (a0.length : Int))) rfl (fun h0 => ?_) fun h0 => ?_
  · have hm1 := ift hm h0
    refine c_seq ?_
    refine c_reg ?_
    refine r_u (o_mv rfl) ?_
    obtain ⟨s2, hs2, hm3⟩ := bs hm1
    refine r_u (o_slS (i := 0) (j := 300) Try.underlying9 rfl rfl rfl hs2) ?_
    refine r_u (o_as rfl) ?_
    refine r_nil ?_
    refine x_seq ?_
    refine c_ret ?_
    obtain rfl := Option.some.inj hm3
    exact x_r1 rfl (rv_t rfl) (Le.refl _) ⟨_, rfl, rfl, rfl, rfl⟩
  · have hm1 := iff_ hm h0
    refine c_skip ?_
    refine x_seq ?_
    refine c_seq ?_
    refine c_reg ?_
    refine r_u (o_mv rfl) ?_
    refine r_u (o_as rfl) ?_
    refine r_nil ?_
    refine x_seq ?_
    refine c_ret ?_
    obtain rfl := Option.some.inj hm1
    exact x_r1 rfl (rv_t rfl) (Le.refl _) ⟨_, rfl, rfl, rfl, rfl⟩

def wire_fail (a0 : Int) : (Unit) ⊕ (Int × Unit) :=
  Sum.inr (a0, ())
theorem wire_fail.ok {G R F} (a0 : Int) (r : (Unit) ⊕ (Int × Unit)) (hm : wire_fail a0 = r) : CO Try.prog 75 [vI a0] G R (F)
    (PK 99 r (fun (a : Unit) u R' L' => u = .tuple #[] ∧ R' = R ∧ L' = F) (fun n (o : Unit) R' L' => R' = R ∧ L' = F)) := by
  unfold wire_fail at hm
  refine co_ofN (N := 5) Try.func75 rfl rfl ?_
  refine c_reg ?_
  refine r_u (o_mv rfl) ?_
  refine r_u (o_bld [vI a0] rfl (fun _ => by kernel_rfl)) ?_
  refine r_u (o_mi (v := .iface 99 (.agg #[vI a0])) rfl (fun _ => by kernel_rfl)) ?_
  subst hm
  exact r_sw0 (s_w (o_panic rfl (px_st (fun _ h => st_pk 0 [] (by decide) h) (px_of (Le.refl _) (.inr ⟨_, rfl, _, rfl, rfl, rfl⟩))))) (fun _ _ _ _ h => h.elim)

def wire_Reader_Bytes (a0 : wire_Reader) (a1 : Int) : Option ((Str × wire_Reader) ⊕ (Int × wire_Reader)) :=
  Option.bind (if (decide (a1 < 0) || decide ((a0.s.length : Int) < a1)) then lt (wire_fail 4) fun r11 => sm r11 (fun (ra13 : Unit) => some (Sum.inl ())) fun ((rn14, ro15) : Int × Unit) => some (Sum.inr (Sum.inr (rn14, a0))) else some (Sum.inl ())) fun (p0 : Unit ⊕ ((Str × wire_Reader) ⊕ (Int × wire_Reader))) => (match p0 with | Sum.inl q1 => (sl a0.s 0 a1).bind fun s5 => (sl a0.s a1 (a0.s.length : Int)).bind fun s7 => some (Sum.inl (s5, (⟨s7⟩ : wire_Reader))) | Sum.inr r => some r)
theorem wire_Reader_Bytes.ok {G R F} (b0_ : Nat) (a0 : wire_Reader) (a1 : Int) (r : (Str × wire_Reader) ⊕ (Int × wire_Reader)) (hm : wire_Reader_Bytes a0 a1 = some r) : CO Try.prog 34 [pt b0_ 0, vI a1] G R (Bk b0_ 101 (wire_Reader.c a0) :: F)
    (PK 99 r (fun (a : Str × wire_Reader) u R' L' => u = vS a.1 ∧ R' = R ∧ L' = Bk b0_ 101 (wire_Reader.c a.2) :: F) (fun n (o : wire_Reader) R' L' => R' = R ∧ L' = Bk b0_ 101 (wire_Reader.c o) :: F)) := by
  unfold wire_Reader_Bytes at hm
  refine co_ofN (N := 34) Try.func34 rfl rfl ?_
  refine c_seq ?_
  refine c_reg ?_
  refine r_u (o_as rfl) ?_
  refine r_nil ?_
  refine x_seq ?_
  refine c_seq ?_
  refine c_seq ?_
  refine c_reg ?_
  refine r_u (o_mv rfl) ?_
  refine r_u (o_bin rfl rfl (bI_lt a1 0)) ?_
  refine r_u (o_mv rfl) ?_
  refine r_s (s_gf rfl rfl fun g => o_mv rfl) ?_
  refine r_s (s_gf rfl rfl fun g => o_mv rfl) ?_
  refine r_s (s_gf rfl rfl fun g => o_nc (evg rfl g)) ?_
  refine r_s (s_gf rfl rfl fun g => o_fa fa101_0 (evg rfl g)) ?_
  refine r_s (s_gf rfl rfl fun g => o_ld 0 sc9 (evg rfl g) rfl rfl) ?_
  refine r_s (s_gf rfl rfl fun g => o_lenS Try.underlying9 (evg rfl g)) ?_
  refine r_s (s_gf rfl rfl fun g => o_bin (evg rfl g) (evg rfl g) (bI_gt a1 (a0.s.length : Int))) ?_
  refine r_u (o_or rfl rfl) ?_
  refine r_nil ?_
  refine x_seq ?_
  obtain ⟨p0, hp2, hm3⟩ := bs hm
  refine cd_joinS (p := p0) (Ef := fun q1 => [(0, pt b0_ 0), (1, vI a1)]) (Lf := fun q1 => Bk b0_ 101 (wire_Reader.c a0) :: F) (fun q1 hq => ?_) fun K4 => ?_
  · subst hq
    try dsimp only at hm3
    refine x_seq ?_
    refine c_seq ?_
    refine c_reg ?_
    refine r_u (o_mv rfl) ?_
    refine r_u (o_nc rfl) ?_
    refine r_u (o_fa fa101_0 rfl) ?_
    refine r_u (o_ld 0 sc9 rfl rfl rfl) ?_
    refine r_u (o_mv rfl) ?_
    obtain ⟨s5, hs5, hm6⟩ := bs hm3
    refine r_u (o_slS (i := 0) (j := a1) Try.underlying9 rfl rfl rfl hs5) ?_
    refine r_u (o_as rfl) ?_
    refine r_nil ?_
    refine x_seq ?_
    refine c_seq ?_
    refine c_reg ?_
    refine r_u (o_mv rfl) ?_
    refine r_u (o_mv rfl) ?_
    refine r_u (o_nc rfl) ?_
    refine r_u (o_fa fa101_0 rfl) ?_
    refine r_u (o_ld 0 sc9 rfl rfl rfl) ?_
    refine r_u (o_mv rfl) ?_
    obtain ⟨s7, hs7, hm8⟩ := bs hm6
    refine r_u (o_slS (i := a1) (j := (a0.s.length : Int)) Try.underlying9 rfl rfl rfl hs7) ?_
    refine r_u (o_nc rfl) ?_
    refine r_u (o_fa fa101_0 rfl) ?_
    refine r_u0 (o_st sc9 rfl rfl rfl rfl rfl rfl) ?_
    refine r_nil ?_
    refine x_seq ?_
    refine c_seq ?_
    refine c_reg ?_
    refine r_u (o_mv rfl) ?_
    refine r_u (o_as rfl) ?_
    refine r_nil ?_
    refine x_seq ?_
    refine c_ret ?_
    obtain rfl := Option.some.inj hm8
    exact x_r1 rfl (rv_t rfl) (Le.refl _) (.inl ⟨_, rfl, _, rfl, rfl, rfl, rfl⟩)
  · refine c_if (b := (decide (a1 < 0) || decide ((a0.s.length : Int) < a1))) rfl (fun h9 => ?_) fun h9 => ?_
    · have hm10 := ift hp2 h9
      obtain ⟨r11, hr11, hm12⟩ := ltx hm10
      rcases r11 with ra13 | ⟨rn14, ro15⟩
      · have hm16 := sm_l hm12
        refine c_reg ?_
        refine r_c (s_w (o_callL ca75 rfl (wire_fail.ok 4 (Sum.inl ra13) hr11) (fun _ _ _ h => h))) ?_
        refine r_nil ?_
        obtain rfl := Option.some.inj hm16
        exact x_sub (K4 _ rfl) ⟨rfl, rfl, trivial⟩ (fun _ h => st_pk 1 [0] (by decide) h)
      · have hm16 := sm_r hm12
        refine c_reg ?_
        obtain rfl := Option.some.inj hm16
        try dsimp only at hm3
        obtain rfl := Option.some.inj hm3
        exact r_sw (s_w (o_callR ca75 rfl (wire_fail.ok 4 (Sum.inr (rn14, ro15)) hr11) (by rintro _ _ _ ⟨rfl, rfl⟩; exact (px_st (fun _ h => st_pk 1 [0] (by decide) h) (px_of (Le.refl _) (.inr ⟨_, rfl, _, rfl, rfl, rfl⟩)))))) (fun _ _ _ _ h => h.elim)
    · have hm10 := iff_ hp2 h9
      refine c_skip ?_
      obtain rfl := Option.some.inj hm10
      exact x_sub (K4 _ rfl) ⟨rfl, rfl, trivial⟩ (fun _ h => st_pk 1 [0] (by decide) h)

def wire_Reader_Num_l0  : Nat → UInt64 → Int → Str → Option ((UInt64 × Str) ⊕ ((UInt64 × wire_Reader) ⊕ (Int × wire_Reader)))
  | 0, _, _, _ => none
  | k16 + 1, n_13, s_14, c_15 => if decide (s_14 < 10) then (wire_Reader_Bytes (⟨c_15⟩ : wire_Reader) 1).bind fun r21 => sm r21 (fun (ra23 : Str × wire_Reader) => (gi ra23.1 0).bind fun c27 => Option.bind (if (((s_14 == 9) && decide (1 < c27)) || (decide (0 < s_14) && (c27 == 0))) then lt (wire_fail 6) fun r40 => sm r40 (fun (ra42 : Unit) => some (Sum.inl ())) fun ((rn43, ro44) : Int × Unit) => some (Sum.inr (Sum.inr (Sum.inr (rn43, ra23.2)))) else some (Sum.inl ())) fun (p29 : Unit ⊕ ((UInt64 × Str) ⊕ ((UInt64 × wire_Reader) ⊕ (Int × wire_Reader)))) => (match p29 with | Sum.inl q30 => if 0 ≤ (i64 (7 * s_14)) then if decide (c27 < 128) then some (Sum.inl (n_13 ||| (shWl ((c27 % 128).toUInt64) (i64 (7 * s_14))), ra23.2.s)) else wire_Reader_Num_l0 k16 (n_13 ||| (shWl ((c27 % 128).toUInt64) (i64 (7 * s_14)))) (i64 (s_14 + 1)) ra23.2.s else none | Sum.inr r => some r)) fun ((rn24, ro25) : Int × wire_Reader) => some (Sum.inr (Sum.inr (rn24, ro25))) else some (Sum.inl (n_13, c_15))
def wire_Reader_Num (a0 : wire_Reader) (a1 : UInt64) : Option ((UInt64 × wire_Reader) ⊕ (Int × wire_Reader)) :=
  Option.bind (wire_Reader_Num_l0 11 0 0 a0.s) fun (p0 : (UInt64 × Str) ⊕ ((UInt64 × wire_Reader) ⊕ (Int × wire_Reader))) => (match p0 with | Sum.inl q1 => if decide (a1 < q1.1) then lt (wire_fail 3) fun r7 => sm r7 (fun (ra9 : Unit) => some (Sum.inl (q1.1, (⟨q1.2⟩ : wire_Reader)))) fun ((rn10, ro11) : Int × Unit) => some (Sum.inr (rn10, (⟨q1.2⟩ : wire_Reader))) else some (Sum.inl (q1.1, (⟨q1.2⟩ : wire_Reader))) | Sum.inr r => some r)
theorem wire_Reader_Num.ok {G R F} (b0_ : Nat) (a0 : wire_Reader) (a1 : UInt64) (r : (UInt64 × wire_Reader) ⊕ (Int × wire_Reader)) (hm : wire_Reader_Num a0 a1 = some r) : CO Try.prog 30 [pt b0_ 0, vW a1] G R (Bk b0_ 101 (wire_Reader.c a0) :: F)
    (PK 99 r (fun (a : UInt64 × wire_Reader) u R' L' => u = vW a.1 ∧ R' = R ∧ L' = Bk b0_ 101 (wire_Reader.c a.2) :: F) (fun n (o : wire_Reader) R' L' => R' = R ∧ L' = Bk b0_ 101 (wire_Reader.c o) :: F)) := by
  unfold wire_Reader_Num at hm
  refine co_ofN (N := 45) Try.func30 rfl rfl ?_
  refine c_seq ?_
  refine c_reg ?_
  refine r_u (o_as rfl) ?_
  refine r_nil ?_
  refine x_seq ?_
  refine c_seq ?_
  refine c_reg ?_
  refine r_u (o_as rfl) ?_
  refine r_nil ?_
  refine x_seq ?_
  refine c_seq ?_
  refine c_seq ?_
  refine c_reg ?_
  refine r_u (o_mv rfl) ?_
  refine r_nil ?_
  refine x_seq ?_
  obtain ⟨p0, hp2, hm3⟩ := bs hm
  refine cd_joinS (p := p0) (Ef := fun q1 => [(1, vW a1), (5, vW q1.1)]) (Lf := fun q1 => Bk b0_ 101 [vS q1.2] :: F) (fun q1 hq => ?_) fun K4 => ?_
  · subst hq
    try dsimp only at hm3
    refine x_seq ?_
    refine c_seq ?_
    refine c_seq ?_
    refine c_reg ?_
    refine r_u (o_mv rfl) ?_
    refine r_u (o_mv rfl) ?_
    refine r_u (o_bin rfl rfl (bW_gt q1.1 a1)) ?_
    refine r_nil ?_
    refine x_seq ?_
    refine c_if (b := decide (a1 < q1.1)) rfl (fun h5 => ?_) fun h5 => ?_
    · have hm6 := ift hm3 h5
      obtain ⟨r7, hr7, hm8⟩ := ltx hm6
      rcases r7 with ra9 | ⟨rn10, ro11⟩
      · have hm12 := sm_l hm8
        refine c_reg ?_
        refine r_c (s_w (o_callL ca75 rfl (wire_fail.ok 3 (Sum.inl ra9) hr7) (fun _ _ _ h => h))) ?_
        refine r_nil ?_
        refine x_seq ?_
        refine c_seq ?_
        refine c_reg ?_
        refine r_u (o_mv rfl) ?_
        refine r_u (o_as rfl) ?_
        refine r_nil ?_
        refine x_seq ?_
        refine c_ret ?_
        obtain rfl := Option.some.inj hm12
        exact x_r1 rfl (rv_t rfl) (Le.refl _) (.inl ⟨_, rfl, _, rfl, rfl, rfl, rfl⟩)
      · have hm12 := sm_r hm8
        refine c_reg ?_
        obtain rfl := Option.some.inj hm12
        exact r_sw (s_w (o_callR ca75 rfl (wire_fail.ok 3 (Sum.inr (rn10, ro11)) hr7) (by rintro _ _ _ ⟨rfl, rfl⟩; exact (px_st (fun _ h => st_pk 1 [0] (by decide) h) (px_of (Le.refl _) (.inr ⟨_, rfl, _, rfl, rfl, rfl⟩)))))) (fun _ _ _ _ h => h.elim)
    · have hm6 := iff_ hm3 h5
      refine c_skip ?_
      refine x_seq ?_
      refine c_seq ?_
      refine c_reg ?_
      refine r_u (o_mv rfl) ?_
      refine r_u (o_as rfl) ?_
      refine r_nil ?_
      refine x_seq ?_
      refine c_ret ?_
      obtain rfl := Option.some.inj hm6
      exact x_r1 rfl (rv_t rfl) (Le.refl _) (.inl ⟨_, rfl, _, rfl, rfl, rfl, rfl⟩)
  · refine c_blk ?_
    refine cd_loop (M := fun k16 (s : UInt64 × Int × Str) => wire_Reader_Num_l0 k16 s.1 s.2.1 s.2.2 = some p0) (Ef := fun (s : UInt64 × Int × Str) => [(0, pt b0_ 0), (1, vW a1), (5, vW s.1), (8, vI s.2.1)]) (Lf := fun (s : UInt64 × Int × Str) => Bk b0_ 101 [vS s.2.2] :: F) 11 (0, 0, a0.s) hp2 ⟨rfl, rfl, rfl, rfl, trivial⟩ (fun _ h => h) (fun _ h => by cases h) fun k16 s hM18 => ?_
    obtain ⟨n_13, s_14, c_15⟩ := s
    have hm17 : wire_Reader_Num_l0 (k16 + 1) n_13 s_14 c_15 = some p0 := hM18
    rw [wire_Reader_Num_l0] at hm17
    refine c_seq ?_
    refine c_reg ?_
    refine r_u (o_bin rfl rfl (bI_lt s_14 10)) ?_
    refine r_nil ?_
    refine x_seq ?_
    refine c_seq ?_
    refine c_if (b := decide (s_14 < 10)) rfl (fun h19 => ?_) fun h19 => ?_
    · have hm20 := ift hm17 h19
      refine c_skip ?_
      refine x_seq ?_
      refine c_seq ?_
      refine c_blk ?_
      refine c_seq ?_
      refine c_reg ?_
      refine r_u (o_mv rfl) ?_
      refine r_u (o_as rfl) ?_
      refine r_nil ?_
      refine x_seq ?_
      refine c_seq ?_
      obtain ⟨r21, hr21, hm22⟩ := bs hm20
      rcases r21 with ra23 | ⟨rn24, ro25⟩
      · have hm26 := sm_l hm22
        refine c_reg ?_
        refine r_u (o_mv rfl) ?_
        refine r_c (s_w (o_callL ca34 rfl (wire_Reader_Bytes.ok b0_ (⟨c_15⟩ : wire_Reader) 1 (Sum.inl ra23) hr21) (fun _ _ _ h => h))) ?_
        obtain ⟨c27, hc27, hm28⟩ := bs hm26
        refine r_u (o_ixS Try.underlying9 rfl rfl hc27) ?_
        refine r_u (o_as rfl) ?_
        refine r_nil ?_
        refine x_seq ?_
        refine c_seq ?_
        refine c_seq ?_
        refine c_reg ?_
        refine r_u (o_mv rfl) ?_
        refine r_u (o_bin rfl rfl (bI_eq s_14 9)) ?_
        refine r_u (o_mv rfl) ?_
        refine r_s (s_gt rfl rfl fun g => o_mv rfl) ?_
        refine r_s (s_gt rfl rfl fun g => o_bin (evg rfl g) rfl (bY_gt c27 1)) ?_
        refine r_u (o_and rfl rfl) ?_
        refine r_u (o_mv rfl) ?_
        refine r_s (s_gf rfl rfl fun g => o_mv rfl) ?_
        refine r_s (s_gf rfl rfl fun g => o_bin (evg rfl g) rfl (bI_gt s_14 0)) ?_
        refine r_s (s_gf rfl rfl fun g => o_mv (evg rfl g)) ?_
        refine r_s (s_ggt rfl rfl fun g => o_mv rfl) ?_
        refine r_s (s_ggt rfl rfl fun g => o_bin (evg rfl g) rfl (bY_eq c27 0)) ?_
        refine r_s (s_gf rfl rfl fun g => o_and (evg rfl g) (evg2 rfl g)) ?_
        refine r_u (o_or rfl rfl) ?_
        refine r_nil ?_
        refine x_seq ?_
        obtain ⟨p29, hp31, hm32⟩ := bs hm28
        refine cd_joinS (p := p29) (Ef := fun q30 => [(0, pt b0_ 0), (1, vW a1), (5, vW n_13), (6, vI s_14), (7, vY c27), (8, vI s_14)]) (Lf := fun q30 => Bk b0_ 101 (wire_Reader.c ra23.2) :: F) (fun q30 hq => ?_) fun K33 => ?_
        · subst hq
          try dsimp only at hm32
          refine x_seq ?_
          refine c_seq ?_
          refine c_reg ?_
          refine r_u (o_mv rfl) ?_
          refine r_u (o_mv rfl) ?_
          refine r_u (o_bin rfl rfl (bY_rem c27 128 (by decide))) ?_
          refine r_u (o_cv rfl (cYW Try.underlying5 Try.underlying22 (c27 % 128))) ?_
          refine r_u (o_mv rfl) ?_
          refine r_u (o_bin rfl rfl (bI_mul 7 s_14)) ?_
          obtain ⟨h34, hm35⟩ := ig hm32
          refine r_u (o_bin rfl rfl (bWI_shl ((c27 % 128).toUInt64) (i64 (7 * s_14)) h34)) ?_
          refine r_u (o_bin rfl rfl (bW_or n_13 (shWl ((c27 % 128).toUInt64) (i64 (7 * s_14))))) ?_
          refine r_u (o_as rfl) ?_
          refine r_nil ?_
          refine x_seq ?_
          refine c_seq ?_
          refine c_reg ?_
          refine r_u (o_mv rfl) ?_
          refine r_u (o_bin rfl rfl (bY_lt c27 128)) ?_
          refine r_nil ?_
          refine x_seq ?_
          refine c_if (b := decide (c27 < 128)) rfl (fun h36 => ?_) fun h36 => ?_
          · have hm37 := ift hm35 h36
            refine c_exit (x_exit (ks' := _) rfl ?_)
            obtain rfl := Option.some.inj hm37
            exact x_sub (K4 _ rfl) ⟨rfl, rfl, trivial⟩ (fun _ h => st_pk 1 [0] (by decide) h)
          · have hm37 := iff_ hm35 h36
            refine c_skip ?_
            refine x_blk ?_
            refine x_seq ?_
            refine c_reg ?_
            refine r_u (o_bin rfl rfl (bI_add s_14 1)) ?_
            refine r_u (o_mv rfl) ?_
            refine r_nil ?_
            exact x_lp (n_13 ||| (shWl ((c27 % 128).toUInt64) (i64 (7 * s_14))), i64 (s_14 + 1), ra23.2.s) hm37 ⟨rfl, rfl, rfl, rfl, trivial⟩ (fun _ h => st_pk 1 [0] (by decide) h)
        · refine c_if (b := (((s_14 == 9) && decide (1 < c27)) || (decide (0 < s_14) && (c27 == 0)))) rfl (fun h38 => ?_) fun h38 => ?_
          · have hm39 := ift hp31 h38
            obtain ⟨r40, hr40, hm41⟩ := ltx hm39
            rcases r40 with ra42 | ⟨rn43, ro44⟩
            · have hm45 := sm_l hm41
              refine c_reg ?_
              refine r_c (s_w (o_callL ca75 rfl (wire_fail.ok 6 (Sum.inl ra42) hr40) (fun _ _ _ h => h))) ?_
              refine r_nil ?_
              obtain rfl := Option.some.inj hm45
              exact x_sub (K33 _ rfl) ⟨rfl, rfl, rfl, rfl, rfl, rfl, trivial⟩ (fun _ h => st_pk 1 [0] (by decide) h)
            · have hm45 := sm_r hm41
              refine c_reg ?_
              obtain rfl := Option.some.inj hm45
              try dsimp only at hm32
              obtain rfl := Option.some.inj hm32
              try dsimp only at hm3
              obtain rfl := Option.some.inj hm3
              exact r_sw (s_w (o_callR ca75 rfl (wire_fail.ok 6 (Sum.inr (rn43, ro44)) hr40) (by rintro _ _ _ ⟨rfl, rfl⟩; exact (px_st (fun _ h => st_pk 1 [0] (by decide) h) (px_of (Le.refl _) (.inr ⟨_, rfl, _, rfl, rfl, rfl⟩)))))) (fun _ _ _ _ h => h.elim)
          · have hm39 := iff_ hp31 h38
            refine c_skip ?_
            obtain rfl := Option.some.inj hm39
            exact x_sub (K33 _ rfl) ⟨rfl, rfl, rfl, rfl, rfl, rfl, trivial⟩ (fun _ h => st_pk 1 [0] (by decide) h)
      · have hm26 := sm_r hm22
        refine c_reg ?_
        refine r_u (o_mv rfl) ?_
        obtain rfl := Option.some.inj hm26
        try dsimp only at hm3
        obtain rfl := Option.some.inj hm3
        exact r_sw (s_w (o_callR ca34 rfl (wire_Reader_Bytes.ok b0_ (⟨c_15⟩ : wire_Reader) 1 (Sum.inr (rn24, ro25)) hr21) (by rintro _ _ _ ⟨rfl, rfl⟩; exact (px_st (fun _ h => st_pk 1 [0] (by decide) h) (px_of (Le.refl _) (.inr ⟨_, rfl, _, rfl, rfl, rfl⟩)))))) (fun _ _ _ _ h => h.elim)
    · have hm20 := iff_ hm17 h19
      refine c_exit (x_exit (ks' := _) rfl ?_)
      obtain rfl := Option.some.inj hm20
      exact x_sub (K4 _ rfl) ⟨rfl, rfl, trivial⟩ (fun _ h => st_pk 1 [0] (by decide) h)

def wire_Reader_Text (a0 : wire_Reader) (a1 : Int) : Option ((Str × wire_Reader) ⊕ (Int × wire_Reader)) :=
  (wire_Reader_Num a0 (toW (if a1 < 0 then 0 else a1))).bind fun r0 => sm r0 (fun (ra2 : UInt64 × wire_Reader) => (wire_Reader_Bytes ra2.2 (i64 (ra2.1.toNat : Int))).bind fun r6 => sm r6 (fun (ra8 : Str × wire_Reader) => some (Sum.inl (ra8.1, ra8.2))) fun ((rn9, ro10) : Int × wire_Reader) => some (Sum.inr (rn9, ro10))) fun ((rn3, ro4) : Int × wire_Reader) => some (Sum.inr (rn3, ro4))
theorem wire_Reader_Text.ok {G R F} (b0_ : Nat) (a0 : wire_Reader) (a1 : Int) (r : (Str × wire_Reader) ⊕ (Int × wire_Reader)) (hm : wire_Reader_Text a0 a1 = some r) : CO Try.prog 31 [pt b0_ 0, vI a1] G R (Bk b0_ 101 (wire_Reader.c a0) :: F)
    (PK 99 r (fun (a : Str × wire_Reader) u R' L' => u = vS a.1 ∧ R' = R ∧ L' = Bk b0_ 101 (wire_Reader.c a.2) :: F) (fun n (o : wire_Reader) R' L' => R' = R ∧ L' = Bk b0_ 101 (wire_Reader.c o) :: F)) := by
  unfold wire_Reader_Text at hm
  refine co_ofN (N := 13) Try.func31 rfl rfl ?_
  refine c_seq ?_
  refine c_reg ?_
  refine r_u (o_as rfl) ?_
  refine r_nil ?_
  refine x_seq ?_
  refine c_seq ?_
  obtain ⟨r0, hr0, hm1⟩ := bs hm
  rcases r0 with ra2 | ⟨rn3, ro4⟩
  · have hm5 := sm_l hm1
    obtain ⟨r6, hr6, hm7⟩ := bs hm5
    rcases r6 with ra8 | ⟨rn9, ro10⟩
    · have hm11 := sm_l hm7
      refine c_reg ?_
      refine r_u (o_mv rfl) ?_
      refine r_u (o_mv rfl) ?_
      refine r_u (o_mv rfl) ?_
      refine r_u (o_maxI rfl rfl) ?_
      refine r_u (o_cv rfl (cIW Try.underlying3 Try.underlying22 (if a1 < 0 then 0 else a1))) ?_
      refine r_c (s_w (o_callL ca30 rfl (wire_Reader_Num.ok b0_ a0 (toW (if a1 < 0 then 0 else a1)) (Sum.inl ra2) hr0) (fun _ _ _ h => h))) ?_
      refine r_u (o_cv rfl (cWI Try.underlying22 Try.underlying3 ra2.1)) ?_
      refine r_c (s_w (o_callL ca34 rfl (wire_Reader_Bytes.ok b0_ ra2.2 (i64 (ra2.1.toNat : Int)) (Sum.inl ra8) hr6) (fun _ _ _ h => h))) ?_
      refine r_u (o_as rfl) ?_
      refine r_nil ?_
      refine x_seq ?_
      refine c_ret ?_
      obtain rfl := Option.some.inj hm11
      exact x_r1 rfl (rv_t rfl) (Le.refl _) (.inl ⟨_, rfl, _, rfl, rfl, rfl, rfl⟩)
    · have hm11 := sm_r hm7
      refine c_reg ?_
      refine r_u (o_mv rfl) ?_
      refine r_u (o_mv rfl) ?_
      refine r_u (o_mv rfl) ?_
      refine r_u (o_maxI rfl rfl) ?_
      refine r_u (o_cv rfl (cIW Try.underlying3 Try.underlying22 (if a1 < 0 then 0 else a1))) ?_
      refine r_c (s_w (o_callL ca30 rfl (wire_Reader_Num.ok b0_ a0 (toW (if a1 < 0 then 0 else a1)) (Sum.inl ra2) hr0) (fun _ _ _ h => h))) ?_
      refine r_u (o_cv rfl (cWI Try.underlying22 Try.underlying3 ra2.1)) ?_
      obtain rfl := Option.some.inj hm11
      exact r_sw (s_w (o_callR ca34 rfl (wire_Reader_Bytes.ok b0_ ra2.2 (i64 (ra2.1.toNat : Int)) (Sum.inr (rn9, ro10)) hr6) (by rintro _ _ _ ⟨rfl, rfl⟩; exact (px_st (fun _ h => st_pk 1 [0] (by decide) h) (px_of (Le.refl _) (.inr ⟨_, rfl, _, rfl, rfl, rfl⟩)))))) (fun _ _ _ _ h => h.elim)
  · have hm5 := sm_r hm1
    refine c_reg ?_
    refine r_u (o_mv rfl) ?_
    refine r_u (o_mv rfl) ?_
    refine r_u (o_mv rfl) ?_
    refine r_u (o_maxI rfl rfl) ?_
    refine r_u (o_cv rfl (cIW Try.underlying3 Try.underlying22 (if a1 < 0 then 0 else a1))) ?_
    obtain rfl := Option.some.inj hm5
    exact r_sw (s_w (o_callR ca30 rfl (wire_Reader_Num.ok b0_ a0 (toW (if a1 < 0 then 0 else a1)) (Sum.inr (rn3, ro4)) hr0) (by rintro _ _ _ ⟨rfl, rfl⟩; exact (px_st (fun _ h => st_pk 1 [0] (by decide) h) (px_of (Le.refl _) (.inr ⟨_, rfl, _, rfl, rfl, rfl⟩)))))) (fun _ _ _ _ h => h.elim)

def hawthornlaw03_text_1 (a0 : wire_Reader) (a1 : Int) (a2 : Str) : Option ((wire_Reader × Str) ⊕ (Int × (wire_Reader × Str))) :=
  (wire_Reader_Text a0 a1).bind fun r0 => sm r0 (fun (ra2 : Str × wire_Reader) => some (Sum.inl (ra2.2, ra2.1))) fun ((rn3, ro4) : Int × wire_Reader) => some (Sum.inr (rn3, (ro4, a2)))
theorem hawthornlaw03_text_1.ok {G R F} (b0_ : Nat) (a0 : wire_Reader) (b1_ : Nat) (a1 : Int) (b2_ : Nat) (a2 : Str) (r : (wire_Reader × Str) ⊕ (Int × (wire_Reader × Str))) (hm : hawthornlaw03_text_1 a0 a1 a2 = some r) : CO Try.prog 76 [pt b0_ 0, pt b1_ 0, pt b2_ 0] G R (Bk b0_ 101 (wire_Reader.c a0) :: Bk b1_ 3 [vI a1] :: Bk b2_ 9 [vS a2] :: F)
    (PK 99 r (fun (a : wire_Reader × Str) u R' L' => u = .tuple #[] ∧ R' = R ∧ L' = Bk b0_ 101 (wire_Reader.c a.1) :: Bk b1_ 3 [vI a1] :: Bk b2_ 9 [vS a.2] :: F) (fun n (o : wire_Reader × Str) R' L' => R' = R ∧ L' = Bk b0_ 101 (wire_Reader.c o.1) :: Bk b1_ 3 [vI a1] :: Bk b2_ 9 [vS o.2] :: F)) := by
  unfold hawthornlaw03_text_1 at hm
  refine co_ofN (N := 7) Try.func76 rfl rfl ?_
  obtain ⟨r0, hr0, hm1⟩ := bs hm
  rcases r0 with ra2 | ⟨rn3, ro4⟩
  · have hm5 := sm_l hm1
    refine c_reg ?_
    refine r_u (o_mv rfl) ?_
    refine r_u (o_ld 1 sc3 rfl rfl rfl) ?_
    refine r_c (s_w (o_callL ca31 rfl (wire_Reader_Text.ok b0_ a0 a1 (Sum.inl ra2) hr0) (fun _ _ _ h => h))) ?_
    refine rl_st (fun _ h => st_pk 3 [2, 0, 1] (by decide) h) ?_
    refine r_u0 (o_st sc9 rfl rfl rfl rfl rfl rfl) ?_
    refine r_nil ?_
    refine x_end ?_
    obtain rfl := Option.some.inj hm5
    refine ex_st (fun _ h => st_pk 3 [1, 2, 0] (by decide) h) ?_
    exact x_r0 rfl (Le.refl _) (.inl ⟨_, rfl, _, rfl, rfl, rfl, rfl⟩)
  · have hm5 := sm_r hm1
    refine c_reg ?_
    refine r_u (o_mv rfl) ?_
    refine r_u (o_ld 1 sc3 rfl rfl rfl) ?_
    obtain rfl := Option.some.inj hm5
    exact r_sw (s_w (o_callR ca31 rfl (wire_Reader_Text.ok b0_ a0 a1 (Sum.inr (rn3, ro4)) hr0) (by rintro _ _ _ ⟨rfl, rfl⟩; exact (px_st (fun _ h => st_pk 3 [0, 1, 2] (by decide) h) (px_of (Le.refl _) (.inr ⟨_, rfl, _, rfl, rfl, rfl⟩)))))) (fun _ _ _ _ h => h.elim)

def hawthornlaw03_text (a0 : Str) (a1 : Int) : Option (Str × Int) :=
  (hawthornlaw03_text_1 (⟨a0⟩ : wire_Reader) a1 []).bind fun r2 => sm r2 (fun (ra4 : wire_Reader × Str) => some (ra4.2, (if ra4.1.s == [] then 0 else 5))) fun ((rn5, ro6) : Int × (wire_Reader × Str)) => some (ro6.2, rn5)
theorem hawthornlaw03_text.ok {G R F} (a0 : Str) (a1 : Int) (r : Str × Int) (hm : hawthornlaw03_text a0 a1 = some r) : CO Try.prog 41 [vS a0, vI a1] G R (F)
    (Ret fun u R' L' => u = .tuple #[vS r.1, vI r.2] ∧ R' = R ∧ L' = F) := by
  unfold hawthornlaw03_text at hm
  refine co_ofN (N := 13) Try.func41 rfl rfl ?_
  refine c_seq ?_
  refine c_reg ?_
  refine r_new (o_bx [vI a1] rfl rfl) fun b0 => ?_
  refine r_u (o_as rfl) ?_
  refine r_u (o_as rfl) ?_
  refine r_nil ?_
  refine x_seq ?_
  refine c_seq ?_
  refine c_reg ?_
  refine r_new (o_al ze9) fun b1 => ?_
  refine r_u0 (o_st sc9 rfl rfl rfl rfl rfl rfl) ?_
  refine r_nil ?_
  refine x_seq ?_
  refine c_seq ?_
  obtain ⟨r2, hr2, hm3⟩ := bs hm
  rcases r2 with ra4 | ⟨rn5, ro6⟩
  · have hm7 := sm_l hm3
    refine c_reg ?_
    refine r_u (o_mv rfl) ?_
    refine r_u (o_mf rfl) ?_
    refine rl_st (fun _ h => st_pk 2 [1, 0] (by decide) h) ?_
    refine r_c (s_w (o_call ca27 rfl (wire_Read.okL (A := [Bk b0 3 [vI a1], Bk b1 9 [vS []]]) (M := [Bk b0 3 [vI a1], Bk b1 9 [vS ra4.2]]) (s' := ra4.1.s) ca76 (fun b F => co_l (hawthornlaw03_text_1.ok b (⟨a0⟩ : wire_Reader) b0 a1 b1 [] (Sum.inl ra4) hr2) (fun _ _ _ h => h))))) ?_
    refine r_u (o_as rfl) ?_
    refine r_nil ?_
    refine x_seq ?_
    refine c_seq ?_
    refine c_reg ?_
    refine r_u (o_ld 1 sc9 rfl rfl rfl) ?_
    refine r_u (o_mv rfl) ?_
    refine r_u (o_as rfl) ?_
    refine r_u (o_as rfl) ?_
    refine r_nil ?_
    refine x_seq ?_
    refine c_ret ?_
    obtain rfl := Option.some.inj hm7
    refine ex_st (fun _ h => st_pk 2 [] (by decide) h) ?_
    exact x_r2 rfl (rv_t rfl) (rv_t rfl) (Le.refl _) ⟨_, rfl, rfl, rfl, rfl⟩
  · have hm7 := sm_r hm3
    refine c_reg ?_
    refine r_u (o_mv rfl) ?_
    refine r_u (o_mf rfl) ?_
    refine rl_st (fun _ h => st_pk 2 [1, 0] (by decide) h) ?_
    refine r_c (s_w (o_call ca27 rfl (wire_Read.okR (A := [Bk b0 3 [vI a1], Bk b1 9 [vS []]]) (M := [Bk b0 3 [vI a1], Bk b1 9 [vS ro6.2]]) (cs := [vS ro6.1.s]) ca76 (fun b F => co_r (hawthornlaw03_text_1.ok b (⟨a0⟩ : wire_Reader) b0 a1 b1 [] (Sum.inr (rn5, ro6)) hr2) (fun _ _ h => h))))) ?_
    refine r_u (o_as rfl) ?_
    refine r_nil ?_
    refine x_seq ?_
    refine c_seq ?_
    refine c_reg ?_
    refine r_u (o_ld 1 sc9 rfl rfl rfl) ?_
    refine r_u (o_mv rfl) ?_
    refine r_u (o_as rfl) ?_
    refine r_u (o_as rfl) ?_
    refine r_nil ?_
    refine x_seq ?_
    refine c_ret ?_
    obtain rfl := Option.some.inj hm7
    refine ex_st (fun _ h => st_pk 2 [] (by decide) h) ?_
    exact x_r2 rfl (rv_t rfl) (rv_t rfl) (Le.refl _) ⟨_, rfl, rfl, rfl, rfl⟩

def wire_Reader_Flag (a0 : wire_Reader) : Option ((Bool × wire_Reader) ⊕ (Int × wire_Reader)) :=
  (wire_Reader_Bytes a0 1).bind fun r0 => sm r0 (fun (ra2 : Str × wire_Reader) => (gi ra2.1 0).bind fun c6 => if decide (1 < c6) then lt (wire_fail 6) fun r10 => sm r10 (fun (ra12 : Unit) => some (Sum.inl ((c6 == 1), ra2.2))) fun ((rn13, ro14) : Int × Unit) => some (Sum.inr (rn13, ra2.2)) else some (Sum.inl ((c6 == 1), ra2.2))) fun ((rn3, ro4) : Int × wire_Reader) => some (Sum.inr (rn3, ro4))
theorem wire_Reader_Flag.ok {G R F} (b0_ : Nat) (a0 : wire_Reader) (r : (Bool × wire_Reader) ⊕ (Int × wire_Reader)) (hm : wire_Reader_Flag a0 = some r) : CO Try.prog 33 [pt b0_ 0] G R (Bk b0_ 101 (wire_Reader.c a0) :: F)
    (PK 99 r (fun (a : Bool × wire_Reader) u R' L' => u = vB a.1 ∧ R' = R ∧ L' = Bk b0_ 101 (wire_Reader.c a.2) :: F) (fun n (o : wire_Reader) R' L' => R' = R ∧ L' = Bk b0_ 101 (wire_Reader.c o) :: F)) := by
  unfold wire_Reader_Flag at hm
  refine co_ofN (N := 12) Try.func33 rfl rfl ?_
  refine c_seq ?_
  refine c_reg ?_
  refine r_u (o_as rfl) ?_
  refine r_nil ?_
  refine x_seq ?_
  refine c_seq ?_
  obtain ⟨r0, hr0, hm1⟩ := bs hm
  rcases r0 with ra2 | ⟨rn3, ro4⟩
  · have hm5 := sm_l hm1
    refine c_reg ?_
    refine r_u (o_mv rfl) ?_
    refine r_c (s_w (o_callL ca34 rfl (wire_Reader_Bytes.ok b0_ a0 1 (Sum.inl ra2) hr0) (fun _ _ _ h => h))) ?_
    obtain ⟨c6, hc6, hm7⟩ := bs hm5
    refine r_u (o_ixS Try.underlying9 rfl rfl hc6) ?_
    refine r_u (o_as rfl) ?_
    refine r_nil ?_
    refine x_seq ?_
    refine c_seq ?_
    refine c_seq ?_
    refine c_reg ?_
    refine r_u (o_mv rfl) ?_
    refine r_u (o_bin rfl rfl (bY_gt c6 1)) ?_
    refine r_nil ?_
    refine x_seq ?_
    refine c_if (b := decide (1 < c6)) rfl (fun h8 => ?_) fun h8 => ?_
    · have hm9 := ift hm7 h8
      obtain ⟨r10, hr10, hm11⟩ := ltx hm9
      rcases r10 with ra12 | ⟨rn13, ro14⟩
      · have hm15 := sm_l hm11
        refine c_reg ?_
        refine r_c (s_w (o_callL ca75 rfl (wire_fail.ok 6 (Sum.inl ra12) hr10) (fun _ _ _ h => h))) ?_
        refine r_nil ?_
        refine x_seq ?_
        refine c_seq ?_
        refine c_reg ?_
        refine r_u (o_mv rfl) ?_
        refine r_u (o_bin rfl rfl (bY_eq c6 1)) ?_
        refine r_u (o_as rfl) ?_
        refine r_nil ?_
        refine x_seq ?_
        refine c_ret ?_
        obtain rfl := Option.some.inj hm15
        exact x_r1 rfl (rv_t rfl) (Le.refl _) (.inl ⟨_, rfl, _, rfl, rfl, rfl, rfl⟩)
      · have hm15 := sm_r hm11
        refine c_reg ?_
        obtain rfl := Option.some.inj hm15
        exact r_sw (s_w (o_callR ca75 rfl (wire_fail.ok 6 (Sum.inr (rn13, ro14)) hr10) (by rintro _ _ _ ⟨rfl, rfl⟩; exact (px_st (fun _ h => st_pk 1 [0] (by decide) h) (px_of (Le.refl _) (.inr ⟨_, rfl, _, rfl, rfl, rfl⟩)))))) (fun _ _ _ _ h => h.elim)
    · have hm9 := iff_ hm7 h8
      refine c_skip ?_
      refine x_seq ?_
      refine c_seq ?_
      refine c_reg ?_
      refine r_u (o_mv rfl) ?_
      refine r_u (o_bin rfl rfl (bY_eq c6 1)) ?_
      refine r_u (o_as rfl) ?_
      refine r_nil ?_
      refine x_seq ?_
      refine c_ret ?_
      obtain rfl := Option.some.inj hm9
      exact x_r1 rfl (rv_t rfl) (Le.refl _) (.inl ⟨_, rfl, _, rfl, rfl, rfl, rfl⟩)
  · have hm5 := sm_r hm1
    refine c_reg ?_
    refine r_u (o_mv rfl) ?_
    obtain rfl := Option.some.inj hm5
    exact r_sw (s_w (o_callR ca34 rfl (wire_Reader_Bytes.ok b0_ a0 1 (Sum.inr (rn3, ro4)) hr0) (by rintro _ _ _ ⟨rfl, rfl⟩; exact (px_st (fun _ h => st_pk 1 [0] (by decide) h) (px_of (Le.refl _) (.inr ⟨_, rfl, _, rfl, rfl, rfl⟩)))))) (fun _ _ _ _ h => h.elim)

def hawthornlaw03_flag_1 (a0 : wire_Reader) (a1 : Bool) : Option ((wire_Reader × Bool) ⊕ (Int × (wire_Reader × Bool))) :=
  (wire_Reader_Flag a0).bind fun r0 => sm r0 (fun (ra2 : Bool × wire_Reader) => some (Sum.inl (ra2.2, ra2.1))) fun ((rn3, ro4) : Int × wire_Reader) => some (Sum.inr (rn3, (ro4, a1)))
theorem hawthornlaw03_flag_1.ok {G R F} (b0_ : Nat) (a0 : wire_Reader) (b1_ : Nat) (a1 : Bool) (r : (wire_Reader × Bool) ⊕ (Int × (wire_Reader × Bool))) (hm : hawthornlaw03_flag_1 a0 a1 = some r) : CO Try.prog 77 [pt b0_ 0, pt b1_ 0] G R (Bk b0_ 101 (wire_Reader.c a0) :: Bk b1_ 4 [vB a1] :: F)
    (PK 99 r (fun (a : wire_Reader × Bool) u R' L' => u = .tuple #[] ∧ R' = R ∧ L' = Bk b0_ 101 (wire_Reader.c a.1) :: Bk b1_ 4 [vB a.2] :: F) (fun n (o : wire_Reader × Bool) R' L' => R' = R ∧ L' = Bk b0_ 101 (wire_Reader.c o.1) :: Bk b1_ 4 [vB o.2] :: F)) := by
  unfold hawthornlaw03_flag_1 at hm
  refine co_ofN (N := 5) Try.func77 rfl rfl ?_
  obtain ⟨r0, hr0, hm1⟩ := bs hm
  rcases r0 with ra2 | ⟨rn3, ro4⟩
  · have hm5 := sm_l hm1
    refine c_reg ?_
    refine r_u (o_mv rfl) ?_
    refine r_c (s_w (o_callL ca33 rfl (wire_Reader_Flag.ok b0_ a0 (Sum.inl ra2) hr0) (fun _ _ _ h => h))) ?_
    refine rl_st (fun _ h => st_pk 2 [1, 0] (by decide) h) ?_
    refine r_u0 (o_st sc4 rfl rfl rfl rfl rfl rfl) ?_
    refine r_nil ?_
    refine x_end ?_
    obtain rfl := Option.some.inj hm5
    refine ex_st (fun _ h => st_pk 2 [1, 0] (by decide) h) ?_
    exact x_r0 rfl (Le.refl _) (.inl ⟨_, rfl, _, rfl, rfl, rfl, rfl⟩)
  · have hm5 := sm_r hm1
    refine c_reg ?_
    refine r_u (o_mv rfl) ?_
    obtain rfl := Option.some.inj hm5
    exact r_sw (s_w (o_callR ca33 rfl (wire_Reader_Flag.ok b0_ a0 (Sum.inr (rn3, ro4)) hr0) (by rintro _ _ _ ⟨rfl, rfl⟩; exact (px_st (fun _ h => st_pk 2 [0, 1] (by decide) h) (px_of (Le.refl _) (.inr ⟨_, rfl, _, rfl, rfl, rfl⟩)))))) (fun _ _ _ _ h => h.elim)

def hawthornlaw03_flag (a0 : Str) : Option (Bool × Int) :=
  (hawthornlaw03_flag_1 (⟨a0⟩ : wire_Reader) false).bind fun r1 => sm r1 (fun (ra3 : wire_Reader × Bool) => some (ra3.2, (if ra3.1.s == [] then 0 else 5))) fun ((rn4, ro5) : Int × (wire_Reader × Bool)) => some (ro5.2, rn4)
theorem hawthornlaw03_flag.ok {G R F} (a0 : Str) (r : Bool × Int) (hm : hawthornlaw03_flag a0 = some r) : CO Try.prog 42 [vS a0] G R (F)
    (Ret fun u R' L' => u = .tuple #[vB r.1, vI r.2] ∧ R' = R ∧ L' = F) := by
  unfold hawthornlaw03_flag at hm
  refine co_ofN (N := 11) Try.func42 rfl rfl ?_
  refine c_seq ?_
  refine c_reg ?_
  refine r_u (o_as rfl) ?_
  refine r_u (o_as rfl) ?_
  refine r_nil ?_
  refine x_seq ?_
  refine c_seq ?_
  refine c_reg ?_
  refine r_new (o_al ze4) fun b0 => ?_
  refine r_u0 (o_st sc4 rfl rfl rfl rfl rfl rfl) ?_
  refine r_nil ?_
  refine x_seq ?_
  refine c_seq ?_
  obtain ⟨r1, hr1, hm2⟩ := bs hm
  rcases r1 with ra3 | ⟨rn4, ro5⟩
  · have hm6 := sm_l hm2
    refine c_reg ?_
    refine r_u (o_mv rfl) ?_
    refine r_u (o_mf rfl) ?_
    refine r_c (s_w (o_call ca27 rfl (wire_Read.okL (A := [Bk b0 4 [vB false]]) (M := [Bk b0 4 [vB ra3.2]]) (s' := ra3.1.s) ca77 (fun b F => co_l (hawthornlaw03_flag_1.ok b (⟨a0⟩ : wire_Reader) b0 false (Sum.inl ra3) hr1) (fun _ _ _ h => h))))) ?_
    refine r_u (o_as rfl) ?_
    refine r_nil ?_
    refine x_seq ?_
    refine c_seq ?_
    refine c_reg ?_
    refine r_u (o_ld 0 sc4 rfl rfl rfl) ?_
    refine r_u (o_mv rfl) ?_
    refine r_u (o_as rfl) ?_
    refine r_u (o_as rfl) ?_
    refine r_nil ?_
    refine x_seq ?_
    refine c_ret ?_
    obtain rfl := Option.some.inj hm6
    refine ex_st (fun _ h => st_pk 1 [] (by decide) h) ?_
    exact x_r2 rfl (rv_t rfl) (rv_t rfl) (Le.refl _) ⟨_, rfl, rfl, rfl, rfl⟩
  · have hm6 := sm_r hm2
    refine c_reg ?_
    refine r_u (o_mv rfl) ?_
    refine r_u (o_mf rfl) ?_
    refine r_c (s_w (o_call ca27 rfl (wire_Read.okR (A := [Bk b0 4 [vB false]]) (M := [Bk b0 4 [vB ro5.2]]) (cs := [vS ro5.1.s]) ca77 (fun b F => co_r (hawthornlaw03_flag_1.ok b (⟨a0⟩ : wire_Reader) b0 false (Sum.inr (rn4, ro5)) hr1) (fun _ _ h => h))))) ?_
    refine r_u (o_as rfl) ?_
    refine r_nil ?_
    refine x_seq ?_
    refine c_seq ?_
    refine c_reg ?_
    refine r_u (o_ld 0 sc4 rfl rfl rfl) ?_
    refine r_u (o_mv rfl) ?_
    refine r_u (o_as rfl) ?_
    refine r_u (o_as rfl) ?_
    refine r_nil ?_
    refine x_seq ?_
    refine c_ret ?_
    obtain rfl := Option.some.inj hm6
    refine ex_st (fun _ h => st_pk 1 [] (by decide) h) ?_
    exact x_r2 rfl (rv_t rfl) (rv_t rfl) (Le.refl _) ⟨_, rfl, rfl, rfl, rfl⟩

def hawthornref03_At_Bytes (a0 : hawthornref03_At) (a1 : Int) : Option (hawthornref03_At × Str) :=
  Option.bind (if ((a0.Err == 0) && (decide (a1 < 0) || decide ((a0.S.length : Int) < a1))) then some 4 else some a0.Err) fun p2 => if (p2 != 0) then some ((⟨a0.S, p2⟩ : hawthornref03_At), []) else (sl a0.S a1 (a0.S.length : Int)).bind fun s8 => (sl a0.S 0 a1).bind fun s10 => some ((⟨s8, 0⟩ : hawthornref03_At), s10)
theorem hawthornref03_At_Bytes.ok {G R F} (a0 : hawthornref03_At) (a1 : Int) (r : hawthornref03_At × Str) (hm : hawthornref03_At_Bytes a0 a1 = some r) : CO Try.prog 39 [.agg (hawthornref03_At.c a0).toArray, vI a1] G R (F)
    (Ret fun u R' L' => u = .tuple #[.agg (hawthornref03_At.c r.1).toArray, vS r.2] ∧ R' = R ∧ L' = F) := by
  unfold hawthornref03_At_Bytes at hm
  refine co_ofN (N := 34) Try.func39 rfl rfl ?_
  refine c_seq ?_
  refine c_reg ?_
  refine r_new (o_bx (hawthornref03_At.c a0) rfl rfl) fun b0 => ?_
  refine r_new (o_al ze28) fun b1 => ?_
  refine r_u (o_as rfl) ?_
  refine r_nil ?_
  refine x_seq ?_
  refine c_seq ?_
  refine c_seq ?_
  refine c_reg ?_
  refine r_u (o_fa fa28_1 rfl) ?_
  refine r_u (o_ld 1 sc3 rfl rfl rfl) ?_
  refine r_u (o_bin rfl rfl (bI_eq a0.Err 0)) ?_
  refine r_u (o_mv rfl) ?_
  refine r_s (s_gt rfl rfl fun g => o_mv rfl) ?_
  refine r_s (s_gt rfl rfl fun g => o_bin (evg rfl g) rfl (bI_lt a1 0)) ?_
  refine r_s (s_gt rfl rfl fun g => o_mv (evg rfl g)) ?_
  refine r_s (s_ggf rfl rfl fun g => o_mv rfl) ?_
  refine r_s (s_ggf rfl rfl fun g => o_fa fa28_0 rfl) ?_
  refine r_s (s_ggf rfl rfl fun g => o_ld 1 sc9 (evg rfl g) rfl rfl) ?_
  refine r_s (s_ggf rfl rfl fun g => o_lenS Try.underlying9 (evg rfl g)) ?_
  refine r_s (s_ggf rfl rfl fun g => o_bin (evg rfl g) (evg rfl g) (bI_gt a1 (a0.S.length : Int))) ?_
  refine r_s (s_gt rfl rfl fun g => o_or (evg rfl g) (evg2 rfl g)) ?_
  refine r_u (o_and rfl rfl) ?_
  refine r_nil ?_
  refine x_seq ?_
  obtain ⟨p2, hp3, hm4⟩ := bs hm
  refine cd_join (E' := [(1, vI a1), (2, pt b0 0), (4, pt b1 0)]) (L' := Bk b0 28 [vS a0.S, vI p2] :: Bk b1 28 [vS [], vI 0] :: F) ?_ fun K5 => ?_
  · refine x_seq ?_
    refine c_seq ?_
    refine c_seq ?_
    refine c_reg ?_
    refine r_u (o_fa fa28_1 rfl) ?_
    refine r_u (o_ld 0 sc3 rfl rfl rfl) ?_
    refine r_u (o_bin rfl rfl (bI_ne p2 0)) ?_
    refine r_nil ?_
    refine x_seq ?_
    refine c_if (b := (p2 != 0)) rfl (fun h6 => ?_) fun h6 => ?_
    · have hm7 := ift hm4 h6
      refine c_seq ?_
      refine c_reg ?_
      refine r_u (o_ldn 0 [vS a0.S, vI p2] ag28 rfl rfl rfl rfl) ?_
      refine rl_st (fun _ h => st_pk 2 [1, 0] (by decide) h) ?_
      refine r_u0 (o_stn ag28 rfl rfl rfl rfl rfl rfl rfl) ?_
      refine r_u (o_as rfl) ?_
      refine r_nil ?_
      refine x_seq ?_
      refine c_ret ?_
      obtain rfl := Option.some.inj hm7
      exact x_d2 rfl (rv_n 0 [vS a0.S, vI p2] ag28 rfl rfl rfl rfl) (rv_t rfl) (fun _ h => st_pk 2 [] (by decide) h) (Le.refl _) ⟨_, rfl, rfl, rfl, rfl⟩
    · have hm7 := iff_ hm4 h6
      refine c_skip ?_
      refine x_seq ?_
      refine c_seq ?_
      obtain ⟨s8, hs8, hm9⟩ := bs hm7
      obtain ⟨s10, hs10, hm11⟩ := bs hm9
      refine c_any mixed (effs := [9]) (V := []) ?_
      refine stage_st (fun _ h => st_pk 2 [1, 0] (by decide) h) ?_
      refine stage_ext [(0, pt b0 0), (1, vS a0.S), (2, vI a1), (3, vS s8), (4, .agg [vS s8, vI 0].toArray), (5, pt b0 0), (6, vS a0.S), (7, vI a1), (8, vS s10)] rfl ?_
      refine stage rfl rfl rfl rfl [0, 1, 0, 7, 15, 0, 32, 0, 224, 31, 1023] [0, 1, 2, 3, 4, 5, 6, 7, 8] [9] rfl rfl rfl (qc rfl rfl (s_u (o_fa fa28_0 rfl)) (qc rfl rfl (s_u (o_ld 1 sc9 rfl rfl rfl)) (qc rfl rfl (s_u (o_mv rfl)) (qc rfl rfl (s_u (o_slS (i := a1) (j := (a0.S.length : Int)) Try.underlying9 rfl rfl rfl hs8)) (qc rfl rfl (s_u (o_bld [vS s8, vI 0] rfl (fun _ => by kernel_rfl))) (qc rfl rfl (s_u (o_fa fa28_0 rfl)) (qc rfl rfl (s_u (o_ld 1 sc9 rfl rfl rfl)) (qc rfl rfl (s_u (o_mv rfl)) (qc rfl rfl (s_u (o_slS (i := 0) (j := a1) Try.underlying9 rfl rfl rfl hs10)) qn))))))))) ?_ (fun h => absurd h (by decide))
      refine ec (eo_u rfl (s_u (o_stn ag28 rfl rfl rfl rfl rfl rfl rfl)) (Le.refl _) ?_) en
      refine stage_ext [(10, vS s10)] rfl ?_
      refine stage rfl rfl rfl rfl [0, 1, 0, 7, 15, 0, 32, 0, 224, 31, 1023] [5, 6, 7, 8, 10] [] rfl rfl rfl (qc rfl rfl (s_u (o_fa fa28_0 rfl)) (qc rfl rfl (s_u (o_ld 1 sc9 rfl rfl rfl)) (qc rfl rfl (s_u (o_mv rfl)) (qc rfl rfl (s_u (o_slS (i := 0) (j := a1) Try.underlying9 rfl rfl rfl hs10)) (qc rfl rfl (s_u (o_as rfl)) qn))))) en ?_
      intro _
      refine ex_sub (E' := [(4, pt b1 0), (5, vS s10)]) ⟨rfl, rfl, trivial⟩ ?_
      refine x_seq ?_
      refine c_ret ?_
      obtain rfl := Option.some.inj hm11
      exact x_d2 rfl (rv_n 0 [vS s8, vI 0] ag28 rfl rfl rfl rfl) (rv_t rfl) (fun _ h => st_pk 2 [] (by decide) h) (Le.refl _) ⟨_, rfl, rfl, rfl, rfl⟩
  · refine c_if (b := ((a0.Err == 0) && (decide (a1 < 0) || decide ((a0.S.length : Int) < a1)))) rfl (fun h12 => ?_) fun h12 => ?_
    · have hm13 := ift hp3 h12
      refine c_reg ?_
      refine r_u (o_fa fa28_1 rfl) ?_
      refine rl_st (fun _ h => st_pk 2 [1, 0] (by decide) h) ?_
      refine r_u0 (o_st sc3 rfl rfl rfl rfl rfl rfl) ?_
      refine r_nil ?_
      obtain rfl := Option.some.inj hm13
      exact x_sub K5 ⟨rfl, rfl, rfl, trivial⟩ (fun _ h => st_pk 2 [0, 1] (by decide) h)
    · have hm13 := iff_ hp3 h12
      refine c_skip ?_
      obtain rfl := Option.some.inj hm13
      exact x_sub K5 ⟨rfl, rfl, rfl, trivial⟩ (fun _ h => st_pk 2 [1, 0] (by decide) h)

def hawthornref03_At_Num_l0  : Nat → UInt64 → UInt64 → Int → hawthornref03_At → Option ((UInt64 × hawthornref03_At) ⊕ (hawthornref03_At × UInt64))
  | 0, _, _, _, _ => none
  | k13 + 1, n_9, unit_10, i_11, c_12 => if decide (i_11 < 10) then (hawthornref03_At_Bytes c_12 1).bind fun r18 => if (r18.1.Err != 0) then some (Sum.inr (r18.1, 0)) else (gi r18.2 0).bind fun c23 => if (((i_11 == 9) && decide (1 < c23.toUInt64)) || (decide (0 < i_11) && (c23.toUInt64 == 0))) then some (Sum.inr ((⟨r18.1.S, 6⟩ : hawthornref03_At), 0)) else if decide (c23.toUInt64 < 128) then some (Sum.inl (n_9 + ((c23.toUInt64 % 128) * unit_10), r18.1)) else hawthornref03_At_Num_l0 k13 (n_9 + ((c23.toUInt64 % 128) * unit_10)) (unit_10 * 128) (i64 (i_11 + 1)) r18.1 else some (Sum.inl (n_9, c_12))
def hawthornref03_At_Num (a0 : hawthornref03_At) (a1 : UInt64) : Option (hawthornref03_At × UInt64) :=
  Option.bind (hawthornref03_At_Num_l0 11 0 1 0 a0) fun (p2 : (UInt64 × hawthornref03_At) ⊕ (hawthornref03_At × UInt64)) => (match p2 with | Sum.inl q3 => if decide (a1 < q3.1) then some ((⟨q3.2.S, 3⟩ : hawthornref03_At), 0) else some (q3.2, q3.1) | Sum.inr r => some r)
theorem hawthornref03_At_Num.ok {G R F} (a0 : hawthornref03_At) (a1 : UInt64) (r : hawthornref03_At × UInt64) (hm : hawthornref03_At_Num a0 a1 = some r) : CO Try.prog 16 [.agg (hawthornref03_At.c a0).toArray, vW a1] G R (F)
    (Ret fun u R' L' => u = .tuple #[.agg (hawthornref03_At.c r.1).toArray, vW r.2] ∧ R' = R ∧ L' = F) := by
  unfold hawthornref03_At_Num at hm
  refine co_ofN (N := 62) Try.func16 rfl rfl ?_
  refine c_seq ?_
  refine c_reg ?_
  refine r_new (o_bx (hawthornref03_At.c a0) rfl rfl) fun b0 => ?_
  refine r_new (o_al ze28) fun b1 => ?_
  refine r_u (o_as rfl) ?_
  refine r_nil ?_
  refine x_seq ?_
  refine c_seq ?_
  refine c_reg ?_
  refine r_u (o_as rfl) ?_
  refine r_u (o_as rfl) ?_
  refine r_nil ?_
  refine x_seq ?_
  refine c_seq ?_
  refine c_seq ?_
  refine c_reg ?_
  refine r_u (o_as rfl) ?_
  refine r_nil ?_
  refine x_seq ?_
  obtain ⟨p2, hp4, hm5⟩ := bs hm
  refine cd_joinS (p := p2) (Ef := fun q3 => [(1, vW a1), (2, pt b0 0), (4, pt b1 0), (6, vW q3.1)]) (Lf := fun q3 => Bk b1 28 [vS [], vI 0] :: Bk b0 28 (hawthornref03_At.c q3.2) :: F) (fun q3 hq => ?_) fun K6 => ?_
  · subst hq
    try dsimp only at hm5
    refine x_seq ?_
    refine c_seq ?_
    refine c_seq ?_
    refine c_reg ?_
    refine r_u (o_mv rfl) ?_
    refine r_u (o_mv rfl) ?_
    refine r_u (o_bin rfl rfl (bW_gt q3.1 a1)) ?_
    refine r_nil ?_
    refine x_seq ?_
    refine c_if (b := decide (a1 < q3.1)) rfl (fun h7 => ?_) fun h7 => ?_
    · have hm8 := ift hm5 h7
      refine c_seq ?_
      refine c_reg ?_
      refine r_u (o_fa fa28_1 rfl) ?_
      refine rl_st (fun _ h => st_pk 2 [1, 0] (by decide) h) ?_
      refine r_u0 (o_st sc3 rfl rfl rfl rfl rfl rfl) ?_
      refine r_nil ?_
      refine x_seq ?_
      refine c_seq ?_
      refine c_reg ?_
      refine r_u (o_ldn 0 [vS q3.2.S, vI 3] ag28 rfl rfl rfl rfl) ?_
      refine rl_st (fun _ h => st_pk 2 [1, 0] (by decide) h) ?_
      refine r_u0 (o_stn ag28 rfl rfl rfl rfl rfl rfl rfl) ?_
      refine r_u (o_as rfl) ?_
      refine r_nil ?_
      refine x_seq ?_
      refine c_ret ?_
      obtain rfl := Option.some.inj hm8
      exact x_d2 rfl (rv_n 0 [vS q3.2.S, vI 3] ag28 rfl rfl rfl rfl) (rv_t rfl) (fun _ h => st_pk 2 [] (by decide) h) (Le.refl _) ⟨_, rfl, rfl, rfl, rfl⟩
    · have hm8 := iff_ hm5 h7
      refine c_skip ?_
      refine x_seq ?_
      refine c_seq ?_
      refine c_reg ?_
      refine r_u (o_ldn 1 (hawthornref03_At.c q3.2) ag28 rfl rfl rfl rfl) ?_
      refine r_u (o_mv rfl) ?_
      refine r_u0 (o_stn ag28 rfl rfl rfl rfl rfl rfl rfl) ?_
      refine r_u (o_as rfl) ?_
      refine r_nil ?_
      refine x_seq ?_
      refine c_ret ?_
      obtain rfl := Option.some.inj hm8
      exact x_d2 rfl (rv_n 0 (hawthornref03_At.c q3.2) ag28 rfl rfl rfl rfl) (rv_t rfl) (fun _ h => st_pk 2 [] (by decide) h) (Le.refl _) ⟨_, rfl, rfl, rfl, rfl⟩
  · refine c_blk ?_
    refine cd_loop (M := fun k13 (s : UInt64 × UInt64 × Int × hawthornref03_At) => hawthornref03_At_Num_l0 k13 s.1 s.2.1 s.2.2.1 s.2.2.2 = some p2) (Ef := fun (s : UInt64 × UInt64 × Int × hawthornref03_At) => [(1, vW a1), (2, pt b0 0), (4, pt b1 0), (6, vW s.1), (7, vW s.2.1), (8, vI s.2.2.1)]) (Lf := fun (s : UInt64 × UInt64 × Int × hawthornref03_At) => Bk b1 28 [vS [], vI 0] :: Bk b0 28 (hawthornref03_At.c s.2.2.2) :: F) 11 (0, 1, 0, a0) hp4 ⟨rfl, rfl, rfl, rfl, rfl, rfl, trivial⟩ (fun _ h => h) (fun _ h => by cases h) fun k13 s hM15 => ?_
    obtain ⟨n_9, unit_10, i_11, c_12⟩ := s
    have hm14 : hawthornref03_At_Num_l0 (k13 + 1) n_9 unit_10 i_11 c_12 = some p2 := hM15
    rw [hawthornref03_At_Num_l0] at hm14
    refine c_seq ?_
    refine c_seq ?_
    refine c_reg ?_
    refine r_u (o_mv rfl) ?_
    refine r_u (o_bin rfl rfl (bI_lt i_11 10)) ?_
    refine r_nil ?_
    refine x_seq ?_
    refine c_if (b := decide (i_11 < 10)) rfl (fun h16 => ?_) fun h16 => ?_
    · have hm17 := ift hm14 h16
      refine c_skip ?_
      refine x_seq ?_
      refine c_seq ?_
      refine c_blk ?_
      refine c_seq ?_
      refine c_reg ?_
      refine r_u (o_ldn 1 (hawthornref03_At.c c_12) ag28 rfl rfl rfl rfl) ?_
      obtain ⟨r18, hr18, hm19⟩ := bs hm17
      refine r_u (o_callq ca39 rfl (hawthornref03_At_Bytes.ok c_12 1 r18 hr18)) ?_
      refine r_u (o_mv rfl) ?_
      refine r_u (o_ext rfl rfl) ?_
      refine r_u (o_ext rfl rfl) ?_
      refine r_new (o_al ze28) fun b20 => ?_
      refine r_u0 (o_stn ag28 rfl rfl rfl rfl rfl rfl rfl) ?_
      refine r_u (o_as rfl) ?_
      refine r_nil ?_
      refine x_seq ?_
      refine c_seq ?_
      refine c_reg ?_
      refine r_u (o_ldn 0 (hawthornref03_At.c r18.1) ag28 rfl rfl rfl rfl) ?_
      refine rl_st (fun _ h => st_pk 3 [2, 0, 1] (by decide) h) ?_
      refine r_u0 (o_stn ag28 rfl rfl rfl rfl rfl rfl rfl) ?_
      refine r_nil ?_
      refine x_seq ?_
      refine c_seq ?_
      refine c_seq ?_
      refine c_reg ?_
      refine r_u (o_fa fa28_1 rfl) ?_
      refine r_u (o_ld 0 sc3 rfl rfl rfl) ?_
      refine r_u (o_bin rfl rfl (bI_ne r18.1.Err 0)) ?_
      refine r_nil ?_
      refine x_seq ?_
      refine c_if (b := (r18.1.Err != 0)) rfl (fun h21 => ?_) fun h21 => ?_
      · have hm22 := ift hm19 h21
        refine c_seq ?_
        refine c_reg ?_
        refine r_u (o_ldn 0 (hawthornref03_At.c r18.1) ag28 rfl rfl rfl rfl) ?_
        refine rl_st (fun _ h => st_pk 3 [2, 0, 1] (by decide) h) ?_
        refine r_u0 (o_stn ag28 rfl rfl rfl rfl rfl rfl rfl) ?_
        refine r_u (o_as rfl) ?_
        refine r_nil ?_
        refine x_seq ?_
        refine c_ret ?_
        obtain rfl := Option.some.inj hm22
        try dsimp only at hm5
        obtain rfl := Option.some.inj hm5
        exact x_d2 rfl (rv_n 0 (hawthornref03_At.c r18.1) ag28 rfl rfl rfl rfl) (rv_t rfl) (fun _ h => st_pk 3 [] (by decide) h) (Le.refl _) ⟨_, rfl, rfl, rfl, rfl⟩
      · have hm22 := iff_ hm19 h21
        refine c_skip ?_
        refine x_seq ?_
        refine c_seq ?_
        refine c_reg ?_
        refine r_u (o_mv rfl) ?_
        obtain ⟨c23, hc23, hm24⟩ := bs hm22
        refine r_u (o_ixS Try.underlying9 rfl rfl hc23) ?_
        refine r_u (o_cv rfl (cYW Try.underlying5 Try.underlying22 c23)) ?_
        refine r_u (o_as rfl) ?_
        refine r_nil ?_
        refine x_seq ?_
        refine c_seq ?_
        refine c_seq ?_
        refine c_reg ?_
        refine r_u (o_mv rfl) ?_
        refine r_u (o_bin rfl rfl (bI_eq i_11 9)) ?_
        refine r_u (o_mv rfl) ?_
        refine r_s (s_gt rfl rfl fun g => o_mv rfl) ?_
        refine r_s (s_gt rfl rfl fun g => o_bin (evg rfl g) rfl (bW_gt c23.toUInt64 1)) ?_
        refine r_u (o_and rfl rfl) ?_
        refine r_u (o_mv rfl) ?_
        refine r_s (s_gf rfl rfl fun g => o_mv rfl) ?_
        refine r_s (s_gf rfl rfl fun g => o_bin (evg rfl g) rfl (bI_gt i_11 0)) ?_
        refine r_s (s_gf rfl rfl fun g => o_mv (evg rfl g)) ?_
        refine r_s (s_ggt rfl rfl fun g => o_mv rfl) ?_
        refine r_s (s_ggt rfl rfl fun g => o_bin (evg rfl g) rfl (bW_eq c23.toUInt64 0)) ?_
        refine r_s (s_gf rfl rfl fun g => o_and (evg rfl g) (evg2 rfl g)) ?_
        refine r_u (o_or rfl rfl) ?_
        refine r_nil ?_
        refine x_seq ?_
        refine c_if (b := (((i_11 == 9) && decide (1 < c23.toUInt64)) || (decide (0 < i_11) && (c23.toUInt64 == 0)))) rfl (fun h25 => ?_) fun h25 => ?_
        · have hm26 := ift hm24 h25
          refine c_seq ?_
          refine c_reg ?_
          refine r_u (o_fa fa28_1 rfl) ?_
          refine r_u0 (o_st sc3 rfl rfl rfl rfl rfl rfl) ?_
          refine r_nil ?_
          refine x_seq ?_
          refine c_seq ?_
          refine c_reg ?_
          refine r_u (o_ldn 0 [vS r18.1.S, vI 6] ag28 rfl rfl rfl rfl) ?_
          refine rl_st (fun _ h => st_pk 3 [2, 0, 1] (by decide) h) ?_
          refine r_u0 (o_stn ag28 rfl rfl rfl rfl rfl rfl rfl) ?_
          refine r_u (o_as rfl) ?_
          refine r_nil ?_
          refine x_seq ?_
          refine c_ret ?_
          obtain rfl := Option.some.inj hm26
          try dsimp only at hm5
          obtain rfl := Option.some.inj hm5
          exact x_d2 rfl (rv_n 0 [vS r18.1.S, vI 6] ag28 rfl rfl rfl rfl) (rv_t rfl) (fun _ h => st_pk 3 [] (by decide) h) (Le.refl _) ⟨_, rfl, rfl, rfl, rfl⟩
        · have hm26 := iff_ hm24 h25
          refine c_skip ?_
          refine x_seq ?_
          refine c_seq ?_
          refine c_reg ?_
          refine r_u (o_mv rfl) ?_
          refine r_u (o_mv rfl) ?_
          refine r_u (o_bin rfl rfl (bW_rem c23.toUInt64 128 (by decide))) ?_
          refine r_u (o_mv rfl) ?_
          refine r_u (o_bin rfl rfl (bW_mul (c23.toUInt64 % 128) unit_10)) ?_
          refine r_u (o_bin rfl rfl (bW_add n_9 ((c23.toUInt64 % 128) * unit_10))) ?_
          refine r_u (o_as rfl) ?_
          refine r_nil ?_
          refine x_seq ?_
          refine c_seq ?_
          refine c_reg ?_
          refine r_u (o_mv rfl) ?_
          refine r_u (o_bin rfl rfl (bW_mul unit_10 128)) ?_
          refine r_u (o_as rfl) ?_
          refine r_nil ?_
          refine x_seq ?_
          refine c_seq ?_
          refine c_reg ?_
          refine r_u (o_mv rfl) ?_
          refine r_u (o_bin rfl rfl (bW_lt c23.toUInt64 128)) ?_
          refine r_nil ?_
          refine x_seq ?_
          refine c_if (b := decide (c23.toUInt64 < 128)) rfl (fun h27 => ?_) fun h27 => ?_
          · have hm28 := ift hm26 h27
            refine c_exit (x_exit (ks' := _) rfl ?_)
            obtain rfl := Option.some.inj hm28
            exact x_sub (K6 _ rfl) ⟨rfl, rfl, rfl, rfl, trivial⟩ (fun _ h => st_pk 3 [2, 0] (by decide) h)
          · have hm28 := iff_ hm26 h27
            refine c_skip ?_
            refine x_blk ?_
            refine x_seq ?_
            refine c_reg ?_
            refine r_u (o_mv rfl) ?_
            refine r_u (o_bin rfl rfl (bI_add i_11 1)) ?_
            refine r_u (o_as rfl) ?_
            refine r_nil ?_
            exact x_lp (n_9 + ((c23.toUInt64 % 128) * unit_10), unit_10 * 128, i64 (i_11 + 1), r18.1) hm28 ⟨rfl, rfl, rfl, rfl, rfl, rfl, trivial⟩ (fun _ h => st_pk 3 [2, 0] (by decide) h)
    · have hm17 := iff_ hm14 h16
      refine c_exit (x_exit (ks' := _) rfl ?_)
      obtain rfl := Option.some.inj hm17
      exact x_sub (K6 _ rfl) ⟨rfl, rfl, rfl, rfl, trivial⟩ (fun _ h => st_pk 2 [0, 1] (by decide) h)

def hawthornref03_At_Text (a0 : hawthornref03_At) (a1 : Int) : Option (hawthornref03_At × Str) :=
  Option.bind (if decide (a1 < 0) then some 0 else some a1) fun p2 => (hawthornref03_At_Num a0 (toW p2)).bind fun r6 => (hawthornref03_At_Bytes r6.1 (i64 (r6.2.toNat : Int))).bind fun r9 => some (r9.1, r9.2)
theorem hawthornref03_At_Text.ok {G R F} (a0 : hawthornref03_At) (a1 : Int) (r : hawthornref03_At × Str) (hm : hawthornref03_At_Text a0 a1 = some r) : CO Try.prog 37 [.agg (hawthornref03_At.c a0).toArray, vI a1] G R (F)
    (Ret fun u R' L' => u = .tuple #[.agg (hawthornref03_At.c r.1).toArray, vS r.2] ∧ R' = R ∧ L' = F) := by
  unfold hawthornref03_At_Text at hm
  refine co_ofN (N := 23) Try.func37 rfl rfl ?_
  refine c_seq ?_
  refine c_reg ?_
  refine r_new (o_bx (hawthornref03_At.c a0) rfl rfl) fun b0 => ?_
  refine r_new (o_al ze28) fun b1 => ?_
  refine r_u (o_as rfl) ?_
  refine r_nil ?_
  refine x_seq ?_
  refine c_seq ?_
  refine c_seq ?_
  refine c_reg ?_
  refine r_u (o_mv rfl) ?_
  refine r_u (o_bin rfl rfl (bI_lt a1 0)) ?_
  refine r_nil ?_
  refine x_seq ?_
  obtain ⟨p2, hp3, hm4⟩ := bs hm
  refine cd_join (E' := [(2, pt b0 0), (4, pt b1 0), (1, vI p2)]) (L' := Bk b1 28 [vS [], vI 0] :: Bk b0 28 (hawthornref03_At.c a0) :: F) ?_ fun K5 => ?_
  · refine x_seq ?_
    refine c_seq ?_
    refine c_reg ?_
    refine r_u (o_ldn 1 (hawthornref03_At.c a0) ag28 rfl rfl rfl rfl) ?_
    refine r_u (o_mv rfl) ?_
    refine r_u (o_cv rfl (cIW Try.underlying3 Try.underlying22 p2)) ?_
    obtain ⟨r6, hr6, hm7⟩ := bs hm4
    refine r_u (o_callq ca16 rfl (hawthornref03_At_Num.ok a0 (toW p2) r6 hr6)) ?_
    refine r_u (o_mv rfl) ?_
    refine r_u (o_ext rfl rfl) ?_
    refine r_u (o_ext rfl rfl) ?_
    refine r_new (o_al ze28) fun b8 => ?_
    refine r_u0 (o_stn ag28 rfl rfl rfl rfl rfl rfl rfl) ?_
    refine r_u (o_as rfl) ?_
    refine r_nil ?_
    refine x_seq ?_
    refine c_seq ?_
    refine c_reg ?_
    refine r_u (o_ldn 0 (hawthornref03_At.c r6.1) ag28 rfl rfl rfl rfl) ?_
    refine r_u (o_mv rfl) ?_
    refine r_u (o_cv rfl (cWI Try.underlying22 Try.underlying3 r6.2)) ?_
    obtain ⟨r9, hr9, hm10⟩ := bs hm7
    refine r_u (o_callq ca39 rfl (hawthornref03_At_Bytes.ok r6.1 (i64 (r6.2.toNat : Int)) r9 hr9)) ?_
    refine r_u (o_ext rfl rfl) ?_
    refine r_u (o_ext rfl rfl) ?_
    refine rl_st (fun _ h => st_pk 3 [1, 0, 2] (by decide) h) ?_
    refine r_u0 (o_stn ag28 rfl rfl rfl rfl rfl rfl rfl) ?_
    refine r_u (o_as rfl) ?_
    refine r_nil ?_
    refine x_seq ?_
    refine c_ret ?_
    obtain rfl := Option.some.inj hm10
    exact x_d2 rfl (rv_n 0 (hawthornref03_At.c r9.1) ag28 rfl rfl rfl rfl) (rv_t rfl) (fun _ h => st_pk 3 [] (by decide) h) (Le.refl _) ⟨_, rfl, rfl, rfl, rfl⟩
  · refine c_if (b := decide (a1 < 0)) rfl (fun h11 => ?_) fun h11 => ?_
    · have hm12 := ift hp3 h11
      refine c_reg ?_
      refine r_u (o_as rfl) ?_
      refine r_nil ?_
      obtain rfl := Option.some.inj hm12
      exact x_sub K5 ⟨rfl, rfl, rfl, trivial⟩ (fun _ h => st_pk 2 [0, 1] (by decide) h)
    · have hm12 := iff_ hp3 h11
      refine c_skip ?_
      obtain rfl := Option.some.inj hm12
      exact x_sub K5 ⟨rfl, rfl, rfl, trivial⟩ (fun _ h => st_pk 2 [0, 1] (by decide) h)

def hawthornref03_At_Flag (a0 : hawthornref03_At) : Option (hawthornref03_At × Bool) :=
  (hawthornref03_At_Bytes a0 1).bind fun r2 => Option.bind (if (r2.1.Err == 0) then (gi r2.2 0).bind fun c21 => some (decide (1 < c21)) else some false) fun p5 => Option.bind (if p5 then some 6 else some r2.1.Err) fun p9 => if (p9 == 0) then (gi r2.2 0).bind fun c15 => some ((⟨r2.1.S, p9⟩ : hawthornref03_At), (c15 == 1)) else some ((⟨r2.1.S, p9⟩ : hawthornref03_At), false)
theorem hawthornref03_At_Flag.ok {G R F} (a0 : hawthornref03_At) (r : hawthornref03_At × Bool) (hm : hawthornref03_At_Flag a0 = some r) : CO Try.prog 38 [.agg (hawthornref03_At.c a0).toArray] G R (F)
    (Ret fun u R' L' => u = .tuple #[.agg (hawthornref03_At.c r.1).toArray, vB r.2] ∧ R' = R ∧ L' = F) := by
  unfold hawthornref03_At_Flag at hm
  refine co_ofN (N := 29) Try.func38 rfl rfl ?_
  refine c_seq ?_
  refine c_reg ?_
  refine r_new (o_bx (hawthornref03_At.c a0) rfl rfl) fun b0 => ?_
  refine r_new (o_al ze28) fun b1 => ?_
  refine r_u (o_as rfl) ?_
  refine r_nil ?_
  refine x_seq ?_
  refine c_seq ?_
  refine c_reg ?_
  refine r_u (o_ldn 1 (hawthornref03_At.c a0) ag28 rfl rfl rfl rfl) ?_
  obtain ⟨r2, hr2, hm3⟩ := bs hm
  refine r_u (o_callq ca39 rfl (hawthornref03_At_Bytes.ok a0 1 r2 hr2)) ?_
  refine r_u (o_mv rfl) ?_
  refine r_u (o_ext rfl rfl) ?_
  refine r_u (o_ext rfl rfl) ?_
  refine r_new (o_al ze28) fun b4 => ?_
  refine r_u0 (o_stn ag28 rfl rfl rfl rfl rfl rfl rfl) ?_
  refine r_u (o_as rfl) ?_
  refine r_nil ?_
  refine x_seq ?_
  refine c_seq ?_
  refine c_seq ?_
  obtain ⟨p5, hp6, hm7⟩ := bs hm3
  refine cd_join (E' := [(2, pt b1 0), (4, pt b4 0), (5, vS r2.2), (18, vB p5)]) (L' := Bk b4 28 (hawthornref03_At.c r2.1) :: Bk b1 28 [vS [], vI 0] :: Bk b0 28 (hawthornref03_At.c a0) :: F) ?_ fun K8 => ?_
  · refine x_seq ?_
    obtain ⟨p9, hp10, hm11⟩ := bs hm7
    refine cd_join (E' := [(2, pt b1 0), (4, pt b4 0), (5, vS r2.2)]) (L' := Bk b4 28 [vS r2.1.S, vI p9] :: Bk b1 28 [vS [], vI 0] :: Bk b0 28 (hawthornref03_At.c a0) :: F) ?_ fun K12 => ?_
    · refine x_seq ?_
      refine c_seq ?_
      refine cd_by (p9 == 0) (fun h13 => ?_) fun h13 => ?_
      · have hm14 := ift hm11 h13
        obtain ⟨c15, hc15, hm16⟩ := bs hm14
        refine c_any mixed (effs := [9]) (V := []) ?_
        refine stage_st (fun _ h => st_pk 3 [1, 0, 2] (by decide) h) ?_
        refine stage_ext [(0, .agg [vS r2.1.S, vI p9].toArray), (1, pt b4 1), (2, vI p9), (3, vB (p9 == 0)), (4, vB (p9 == 0)), (5, vS r2.2), (6, vY c15), (7, vB (c15 == 1)), (8, vB (c15 == 1))] rfl ?_
        refine stage rfl rfl rfl rfl [0, 0, 2, 6, 14, 30, 62, 126, 254, 31, 1023] [0, 1, 2, 3, 4, 5, 6, 7, 8] [9] rfl rfl rfl (qc rfl rfl (s_u (o_ldn 1 [vS r2.1.S, vI p9] ag28 rfl rfl rfl rfl)) (qc rfl rfl (s_u (o_fa fa28_1 rfl)) (qc rfl rfl (s_u (o_ld 1 sc3 rfl rfl rfl)) (qc rfl rfl (s_u (o_bin rfl rfl (bI_eq p9 0))) (qc rfl rfl (s_u (o_mv rfl)) (qc rfl rfl (s_y rfl rfl h13 (o_mv rfl)) (qc rfl rfl (s_y rfl rfl h13 (o_ixS Try.underlying9 rfl rfl hc15)) (qc rfl rfl (s_y rfl rfl h13 (o_bin rfl rfl (bY_eq c15 1))) (qc rfl rfl (s_u (o_pt rfl h13 rfl)) qn))))))))) ?_ (fun h => absurd h (by decide))
        refine ec (eo_u rfl (s_u (o_stn ag28 rfl rfl rfl rfl rfl rfl rfl)) (Le.refl _) ?_) en
        refine stage_ext [(10, vB (c15 == 1))] rfl ?_
        refine stage rfl rfl rfl rfl [0, 0, 2, 6, 14, 30, 62, 126, 254, 31, 1023] [5, 6, 7, 8, 10] [] rfl rfl rfl (qc rfl rfl (s_y rfl rfl h13 (o_mv rfl)) (qc rfl rfl (s_y rfl rfl h13 (o_ixS Try.underlying9 rfl rfl hc15)) (qc rfl rfl (s_y rfl rfl h13 (o_bin rfl rfl (bY_eq c15 1))) (qc rfl rfl (s_u (o_pt rfl h13 rfl)) (qc rfl rfl (s_u (o_as rfl)) qn))))) en ?_
        intro _
        refine ex_sub (E' := [(2, pt b1 0), (3, vB (c15 == 1))]) ⟨rfl, rfl, trivial⟩ ?_
        refine x_seq ?_
        refine c_ret ?_
        obtain rfl := Option.some.inj hm16
        exact x_d2 rfl (rv_n 0 [vS r2.1.S, vI p9] ag28 rfl rfl rfl rfl) (rv_t rfl) (fun _ h => st_pk 3 [] (by decide) h) (Le.refl _) ⟨_, rfl, rfl, rfl, rfl⟩
      · have hm14 := iff_ hm11 h13
        refine c_any mixed (effs := [9]) (V := []) ?_
        refine stage_st (fun _ h => st_pk 3 [1, 0, 2] (by decide) h) ?_
        refine stage_ext [(0, .agg [vS r2.1.S, vI p9].toArray), (1, pt b4 1), (2, vI p9), (3, vB (p9 == 0)), (4, vB (p9 == 0)), (5, undef), (6, undef), (7, undef), (8, vB false)] rfl ?_
        refine stage rfl rfl rfl rfl [0, 0, 2, 6, 14, 30, 62, 126, 254, 31, 1023] [0, 1, 2, 3, 4, 5, 6, 7, 8] [9] rfl rfl rfl (qc rfl rfl (s_u (o_ldn 1 [vS r2.1.S, vI p9] ag28 rfl rfl rfl rfl)) (qc rfl rfl (s_u (o_fa fa28_1 rfl)) (qc rfl rfl (s_u (o_ld 1 sc3 rfl rfl rfl)) (qc rfl rfl (s_u (o_bin rfl rfl (bI_eq p9 0))) (qc rfl rfl (s_u (o_mv rfl)) (qc rfl rfl (s_n rfl rfl h13) (qc rfl rfl (s_n rfl rfl h13) (qc rfl rfl (s_n rfl rfl h13) (qc rfl rfl (s_u (o_pf rfl h13 rfl)) qn))))))))) ?_ (fun h => absurd h (by decide))
        refine ec (eo_u rfl (s_u (o_stn ag28 rfl rfl rfl rfl rfl rfl rfl)) (Le.refl _) ?_) en
        refine stage_ext [(10, vB false)] rfl ?_
        refine stage rfl rfl rfl rfl [0, 0, 2, 6, 14, 30, 62, 126, 254, 31, 1023] [5, 6, 7, 8, 10] [] rfl rfl rfl (qc rfl rfl (s_n rfl rfl h13) (qc rfl rfl (s_n rfl rfl h13) (qc rfl rfl (s_n rfl rfl h13) (qc rfl rfl (s_u (o_pf rfl h13 rfl)) (qc rfl rfl (s_u (o_as rfl)) qn))))) en ?_
        intro _
        refine ex_sub (E' := [(2, pt b1 0), (3, vB false)]) ⟨rfl, rfl, trivial⟩ ?_
        refine x_seq ?_
        refine c_ret ?_
        obtain rfl := Option.some.inj hm14
        exact x_d2 rfl (rv_n 0 [vS r2.1.S, vI p9] ag28 rfl rfl rfl rfl) (rv_t rfl) (fun _ h => st_pk 3 [] (by decide) h) (Le.refl _) ⟨_, rfl, rfl, rfl, rfl⟩
    · refine c_if (b := p5) rfl (fun h17 => ?_) fun h17 => ?_
      · have hm18 := ift hp10 h17
        refine c_reg ?_
        refine r_u (o_fa fa28_1 rfl) ?_
        refine r_u0 (o_st sc3 rfl rfl rfl rfl rfl rfl) ?_
        refine r_nil ?_
        obtain rfl := Option.some.inj hm18
        exact x_sub K12 ⟨rfl, rfl, rfl, trivial⟩ (fun _ h => st_pk 3 [0, 1, 2] (by decide) h)
      · have hm18 := iff_ hp10 h17
        refine c_skip ?_
        obtain rfl := Option.some.inj hm18
        exact x_sub K12 ⟨rfl, rfl, rfl, trivial⟩ (fun _ h => st_pk 3 [0, 1, 2] (by decide) h)
  · refine cd_by (r2.1.Err == 0) (fun h19 => ?_) fun h19 => ?_
    · have hm20 := ift hp6 h19
      refine c_reg ?_
      refine r_u (o_fa fa28_1 rfl) ?_
      refine r_u (o_ld 0 sc3 rfl rfl rfl) ?_
      refine r_u (o_bin rfl rfl (bI_eq r2.1.Err 0)) ?_
      refine r_u (o_mv rfl) ?_
      refine r_s (s_y rfl rfl h19 (o_mv rfl)) ?_
      obtain ⟨c21, hc21, hm22⟩ := bs hm20
      refine r_s (s_y rfl rfl h19 (o_ixS Try.underlying9 rfl rfl hc21)) ?_
      refine r_s (s_y rfl rfl h19 (o_bin rfl rfl (bY_gt c21 1))) ?_
      refine r_u (o_pt rfl h19 rfl) ?_
      refine r_nil ?_
      obtain rfl := Option.some.inj hm22
      exact x_sub K8 ⟨rfl, rfl, rfl, rfl, trivial⟩ (fun _ h => st_pk 3 [0, 1, 2] (by decide) h)
    · have hm20 := iff_ hp6 h19
      refine c_reg ?_
      refine r_u (o_fa fa28_1 rfl) ?_
      refine r_u (o_ld 0 sc3 rfl rfl rfl) ?_
      refine r_u (o_bin rfl rfl (bI_eq r2.1.Err 0)) ?_
      refine r_u (o_mv rfl) ?_
      refine r_s (s_n rfl rfl h19) ?_
      refine r_s (s_n rfl rfl h19) ?_
      refine r_s (s_n rfl rfl h19) ?_
      refine r_u (o_pf rfl h19 rfl) ?_
      refine r_nil ?_
      obtain rfl := Option.some.inj hm20
      exact x_sub K8 ⟨rfl, rfl, rfl, rfl, trivial⟩ (fun _ h => st_pk 3 [0, 1, 2] (by decide) h)

def wire_Num_l0  : Nat → UInt64 → Str → Option (UInt64 × Str)
  | 0, _, _ => none
  | k9 + 1, n_7, c_8 => if decide (128 ≤ n_7) then (apd 1 c_8 [((n_7 % 128).toUInt8) + 128]).bind fun l14 => wire_Num_l0 k9 (n_7 / 128) l14 else some (n_7, c_8)
def wire_Num (a0 : UInt64) : Option Str :=
  Option.bind (wire_Num_l0 11 a0 []) fun p1 => (apd 1 p1.2 [p1.1.toUInt8]).bind fun l5 => some l5
theorem wire_Num.ok {G R F} (a0 : UInt64) (r : Str) (hm : wire_Num a0 = some r) : CO Try.prog 17 [vW a0] G R (F)
    (Ret fun u R' L' => u = vS r ∧ R' = R ∧ L' = F) := by
  unfold wire_Num at hm
  refine co_ofN (N := 17) Try.func17 rfl rfl ?_
  refine c_seq ?_
  refine c_reg ?_
  refine r_u (o_as rfl) ?_
  refine r_nil ?_
  refine x_seq ?_
  refine c_seq ?_
  refine c_reg ?_
  refine r_new (o_al ze91) fun b0 => ?_
  refine rl_st (fun _ h => bld_new (e := 5) h) ?_
  refine r_nil ?_
  refine x_seq ?_
  refine c_seq ?_
  obtain ⟨p1, hp2, hm3⟩ := bs hm
  refine cd_join (E' := [(3, pt b0 0), (0, vW p1.1)]) (L' := Bld 91 5 b0 p1.2 :: F) ?_ fun K4 => ?_
  · refine x_seq ?_
    refine c_seq ?_
    refine c_reg ?_
    refine r_u (o_mv rfl) ?_
    refine r_u (o_cv rfl (cWY Try.underlying22 Try.underlying5 p1.1)) ?_
    obtain ⟨l5, hl5, hm6⟩ := bs hm3
    refine r_c (s_w (o_call ca69 rfl (bld_WriteByte.ok b0 p1.2 p1.1.toUInt8 _ hl5))) ?_
    refine r_nil ?_
    refine x_seq ?_
    refine c_seq ?_
    refine c_reg ?_
    refine r_c (s_w (o_call ca70 rfl (bld_String.ok b0 l5))) ?_
    refine r_u (o_as rfl) ?_
    refine r_nil ?_
    refine x_seq ?_
    refine c_ret ?_
    obtain rfl := Option.some.inj hm6
    exact x_r1 rfl (rv_t rfl) (Le.refl _) ⟨_, rfl, rfl, rfl, rfl⟩
  · refine c_blk ?_
    refine cd_loop (M := fun k9 (s : UInt64 × Str) => wire_Num_l0 k9 s.1 s.2 = some p1) (Ef := fun (s : UInt64 × Str) => [(3, pt b0 0), (0, vW s.1)]) (Lf := fun (s : UInt64 × Str) => Bld 91 5 b0 s.2 :: F) 11 (a0, []) hp2 ⟨rfl, rfl, trivial⟩ (fun _ h => h) (fun _ h => by cases h) fun k9 s hM11 => ?_
    obtain ⟨n_7, c_8⟩ := s
    have hm10 : wire_Num_l0 (k9 + 1) n_7 c_8 = some p1 := hM11
    rw [wire_Num_l0] at hm10
    refine c_seq ?_
    refine c_seq ?_
    refine c_reg ?_
    refine r_u (o_mv rfl) ?_
    refine r_u (o_bin rfl rfl (bW_ge n_7 128)) ?_
    refine r_nil ?_
    refine x_seq ?_
    refine c_if (b := decide (128 ≤ n_7)) rfl (fun h12 => ?_) fun h12 => ?_
    · have hm13 := ift hm10 h12
      refine c_skip ?_
      refine x_seq ?_
      refine c_seq ?_
      refine c_blk ?_
      refine c_reg ?_
      refine r_u (o_mv rfl) ?_
      refine r_u (o_bin rfl rfl (bW_rem n_7 128 (by decide))) ?_
      refine r_u (o_cv rfl (cWY Try.underlying22 Try.underlying5 (n_7 % 128))) ?_
      refine r_u (o_bin rfl rfl (bY_add ((n_7 % 128).toUInt8) 128)) ?_
      obtain ⟨l14, hl14, hm15⟩ := bs hm13
      refine r_c (s_w (o_call ca69 rfl (bld_WriteByte.ok b0 c_8 (((n_7 % 128).toUInt8) + 128) _ hl14))) ?_
      refine r_nil ?_
      refine x_blk ?_
      refine x_seq ?_
      refine c_reg ?_
      refine r_u (o_mv rfl) ?_
      refine r_u (o_bin rfl rfl (bW_quo n_7 128 (by decide))) ?_
      refine r_u (o_as rfl) ?_
      refine r_nil ?_
      exact x_lp (n_7 / 128, l14) hm15 ⟨rfl, rfl, trivial⟩ (fun _ h => st_pk 1 [0] (by decide) h)
    · have hm13 := iff_ hm10 h12
      refine c_exit (x_exit (ks' := _) rfl ?_)
      obtain rfl := Option.some.inj hm13
      exact x_sub K4 ⟨rfl, rfl, trivial⟩ (fun _ h => st_pk 1 [0] (by decide) h)

def wire_Text (a0 : Str) : Option Str :=
  (wire_Num (toW (a0.length : Int))).bind fun r0 => if r0.length + a0.length ≤ maxS then some (r0 ++ a0) else none
theorem wire_Text.ok {G R F} (a0 : Str) (r : Str) (hm : wire_Text a0 = some r) : CO Try.prog 28 [vS a0] G R (F)
    (Ret fun u R' L' => u = vS r ∧ R' = R ∧ L' = F) := by
  unfold wire_Text at hm
  refine co_ofN (N := 9) Try.func28 rfl rfl ?_
  refine c_seq ?_
  refine c_reg ?_
  refine r_u (o_as rfl) ?_
  refine r_nil ?_
  refine x_seq ?_
  refine c_seq ?_
  refine c_reg ?_
  refine r_u (o_mv rfl) ?_
  refine r_u (o_lenS Try.underlying9 rfl) ?_
  refine r_u (o_cv rfl (cIW Try.underlying3 Try.underlying22 (a0.length : Int))) ?_
  obtain ⟨r0, hr0, hm1⟩ := bs hm
  refine r_u (o_callq ca17 rfl (wire_Num.ok (toW (a0.length : Int)) r0 hr0)) ?_
  refine r_u (o_mv rfl) ?_
  obtain ⟨h2, hm3⟩ := ig hm1
  refine r_u (o_bin rfl rfl (bS_add r0 a0 h2)) ?_
  refine r_u (o_as rfl) ?_
  refine r_nil ?_
  refine x_seq ?_
  refine c_ret ?_
  obtain rfl := Option.some.inj hm3
  exact x_r1 rfl (rv_t rfl) (Le.refl _) ⟨_, rfl, rfl, rfl, rfl⟩

def wire_Check_l1  : Nat → UInt32 → Int → Option (UInt32)
  | 0, _, _ => none
  | k26 + 1, r_24, s_25 => if decide (s_25 < 8) then Option.bind (if ((r_24 &&& 1) == 1) then some ((shDr r_24 ((1 : UInt64).toNat : Int)) ^^^ 3945912366) else some (shDr r_24 ((1 : UInt64).toNat : Int))) fun p31 => wire_Check_l1 k26 p31 (i64 (s_25 + 1)) else some r_24
def wire_Check_l0 (a0 : Str) : Nat → UInt32 → Int → Option (UInt32)
  | 0, _, _ => none
  | k9 + 1, r_7, s_8 => if decide (s_8 < (a0.length : Int)) then Option.bind ((gi a0 s_8).bind fun x18 => Option.bind (wire_Check_l1 9 (r_7 ^^^ x18.toUInt32) 0) fun p20 => some p20) fun p14 => wire_Check_l0 a0 k9 p14 (i64 (s_8 + 1)) else some r_7
def wire_Check (a0 : Str) : Option UInt32 :=
  if a0.length ≤ maxLen then Option.bind (wire_Check_l0 a0 (((a0.length : Int) - 0).toNat + 1) 4294967295 0) fun p3 => some (~~~p3) else none
theorem wire_Check.ok {G R F} (a0 : Str) (r : UInt32) (hm : wire_Check a0 = some r) : CO Try.prog 21 [vS a0] G R (F)
    (Ret fun u R' L' => u = vD r ∧ R' = R ∧ L' = F) := by
  unfold wire_Check at hm
  refine co_ofN (N := 32) Try.func21 rfl rfl ?_
  refine c_seq ?_
  refine c_reg ?_
  refine r_u (o_as rfl) ?_
  refine r_nil ?_
  refine x_seq ?_
  refine c_seq ?_
  refine c_reg ?_
  refine r_u (o_as rfl) ?_
  refine r_nil ?_
  refine x_seq ?_
  refine c_seq ?_
  refine c_seq ?_
  refine c_reg ?_
  refine r_u (o_mv rfl) ?_
  obtain ⟨h0, hm2⟩ := ig hm
  refine r_sw (s_w (o_sb Try.underlying9 Try.underlying40 Try.underlying5 rfl h0)) ?_
  rintro v1 R _ _ ⟨rfl, rfl⟩
  refine r_u (o_lenO 0 Try.underlying40 rfl rfl) ?_
  refine r_u (o_mv rfl) ?_
  refine r_nil ?_
  refine x_seq ?_
  obtain ⟨p3, hp4, hm5⟩ := bs hm2
  refine cd_join (E' := [(3, vD p3)]) (L' := OwS false 5 1 eY v1 a0 :: F) ?_ fun K6 => ?_
  · refine x_seq ?_
    refine c_seq ?_
    refine c_reg ?_
    refine r_u (o_mv rfl) ?_
    refine r_u (o_un rfl (uD_xor p3)) ?_
    refine r_u (o_as rfl) ?_
    refine r_nil ?_
    refine x_seq ?_
    refine c_ret ?_
    obtain rfl := Option.some.inj hm5
    refine ex_st (fun _ h => st_pk 1 [] (by decide) h) ?_
    exact x_r1 rfl (rv_t rfl) (Le.refl _) ⟨_, rfl, rfl, rfl, rfl⟩
  · refine c_blk ?_
    refine cd_loop (M := fun k9 (s : UInt32 × Int) => wire_Check_l0 a0 k9 s.1 s.2 = some p3) (Ef := fun (s : UInt32 × Int) => [(8, v1), (9, vI (a0.length : Int)), (3, vD s.1), (10, vI s.2)]) (Lf := fun (s : UInt32 × Int) => OwS false 5 1 eY v1 a0 :: F) (((a0.length : Int) - 0).toNat + 1) (4294967295, 0) hp4 ⟨rfl, rfl, rfl, rfl, trivial⟩ (fun _ h => h) (fun _ h => by cases h) fun k9 s hM11 => ?_
    obtain ⟨r_7, s_8⟩ := s
    have hm10 : wire_Check_l0 a0 (k9 + 1) r_7 s_8 = some p3 := hM11
    rw [wire_Check_l0] at hm10
    refine c_seq ?_
    refine c_reg ?_
    refine r_u (o_bin rfl rfl (bI_lt s_8 (a0.length : Int))) ?_
    refine r_nil ?_
    refine x_seq ?_
    refine c_seq ?_
    refine c_if (b := decide (s_8 < (a0.length : Int))) rfl (fun h12 => ?_) fun h12 => ?_
    · have hm13 := ift hm10 h12
      refine c_skip ?_
      refine x_seq ?_
      refine c_seq ?_
      obtain ⟨p14, hp15, hm16⟩ := bs hm13
      refine cd_join (E' := [(8, v1), (9, vI (a0.length : Int)), (10, vI s_8), (3, vD p14)]) (L' := OwS false 5 1 eY v1 a0 :: F) ?_ fun K17 => ?_
      · refine x_seq ?_
        refine c_reg ?_
        refine r_u (o_bin rfl rfl (bI_add s_8 1)) ?_
        refine r_u (o_mv rfl) ?_
        refine r_nil ?_
        exact x_lp (p14, i64 (s_8 + 1)) hm16 ⟨rfl, rfl, rfl, rfl, trivial⟩ (fun _ h => st_pk 1 [0] (by decide) h)
      · refine c_blk ?_
        refine c_seq ?_
        refine c_reg ?_
        obtain ⟨x18, hx18, hm19⟩ := bs hp15
        refine r_u (o_ixO 0 Try.underlying40 (fun _ => by kernel_rfl) rfl rfl rfl hx18) ?_
        refine r_u (o_ldO0 0 sc5 rfl rfl hx18 rfl rfl) ?_
        refine r_u (o_as rfl) ?_
        refine r_nil ?_
        refine x_seq ?_
        refine c_seq ?_
        refine c_reg ?_
        refine r_u (o_mv rfl) ?_
        refine r_u (o_mv rfl) ?_
        refine r_u (o_cv rfl (cYD Try.underlying5 Try.underlying35 x18)) ?_
        refine r_u (o_bin rfl rfl (bD_xor r_7 x18.toUInt32)) ?_
        refine r_u (o_as rfl) ?_
        refine r_nil ?_
        refine x_seq ?_
        refine c_seq ?_
        refine c_reg ?_
        refine r_u (o_mv rfl) ?_
        refine r_nil ?_
        refine x_seq ?_
        obtain ⟨p20, hp21, hm22⟩ := bs hm19
        refine cd_join (E' := [(8, v1), (9, vI (a0.length : Int)), (10, vI s_8), (3, vD p20)]) (L' := OwS false 5 1 eY v1 a0 :: F) ?_ fun K23 => ?_
        · refine x_blk ?_
          obtain rfl := Option.some.inj hm22
          exact x_sub K17 ⟨rfl, rfl, rfl, rfl, trivial⟩ (fun _ h => st_pk 1 [0] (by decide) h)
        · refine c_blk ?_
          refine cd_loop (M := fun k26 (s : UInt32 × Int) => wire_Check_l1 k26 s.1 s.2 = some p20) (Ef := fun (s : UInt32 × Int) => [(8, v1), (9, vI (a0.length : Int)), (10, vI s_8), (3, vD s.1), (18, vI s.2)]) (Lf := fun (s : UInt32 × Int) => OwS false 5 1 eY v1 a0 :: F) 9 (r_7 ^^^ x18.toUInt32, 0) hp21 ⟨rfl, rfl, rfl, rfl, rfl, trivial⟩ (fun _ h => h) (fun _ h => by cases h) fun k26 s hM28 => ?_
          obtain ⟨r_24, s_25⟩ := s
          have hm27 : wire_Check_l1 (k26 + 1) r_24 s_25 = some p20 := hM28
          rw [wire_Check_l1] at hm27
          refine c_seq ?_
          refine c_reg ?_
          refine r_u (o_bin rfl rfl (bI_lt s_25 8)) ?_
          refine r_nil ?_
          refine x_seq ?_
          refine c_seq ?_
          refine c_if (b := decide (s_25 < 8)) rfl (fun h29 => ?_) fun h29 => ?_
          · have hm30 := ift hm27 h29
            refine c_skip ?_
            refine x_seq ?_
            refine c_seq ?_
            refine c_blk ?_
            refine c_seq ?_
            refine c_reg ?_
            refine r_u (o_mv rfl) ?_
            refine r_u (o_bin rfl rfl (bD_and r_24 1)) ?_
            refine r_u (o_as rfl) ?_
            refine r_nil ?_
            refine x_seq ?_
            refine c_seq ?_
            refine c_reg ?_
            refine r_u (o_mv rfl) ?_
            refine r_u (o_bin rfl rfl (bDW_shr r_24 1)) ?_
            refine r_u (o_as rfl) ?_
            refine r_nil ?_
            refine x_seq ?_
            refine c_seq ?_
            refine c_reg ?_
            refine r_u (o_mv rfl) ?_
            refine r_u (o_bin rfl rfl (bD_eq (r_24 &&& 1) 1)) ?_
            refine r_nil ?_
            refine x_seq ?_
            obtain ⟨p31, hp32, hm33⟩ := bs hm30
            refine cd_join (E' := [(8, v1), (9, vI (a0.length : Int)), (10, vI s_8), (18, vI s_25), (3, vD p31)]) (L' := OwS false 5 1 eY v1 a0 :: F) ?_ fun K34 => ?_
            · refine x_blk ?_
              refine x_seq ?_
              refine c_reg ?_
              refine r_u (o_bin rfl rfl (bI_add s_25 1)) ?_
              refine r_u (o_mv rfl) ?_
              refine r_nil ?_
              exact x_lp (p31, i64 (s_25 + 1)) hm33 ⟨rfl, rfl, rfl, rfl, rfl, trivial⟩ (fun _ h => st_pk 1 [0] (by decide) h)
            · refine c_if (b := ((r_24 &&& 1) == 1)) rfl (fun h35 => ?_) fun h35 => ?_
              · have hm36 := ift hp32 h35
                refine c_reg ?_
                refine r_u (o_mv rfl) ?_
                refine r_u (o_bin rfl rfl (bD_xor (shDr r_24 ((1 : UInt64).toNat : Int)) 3945912366)) ?_
                refine r_u (o_as rfl) ?_
                refine r_nil ?_
                obtain rfl := Option.some.inj hm36
                exact x_sub K34 ⟨rfl, rfl, rfl, rfl, rfl, trivial⟩ (fun _ h => st_pk 1 [0] (by decide) h)
              · have hm36 := iff_ hp32 h35
                refine c_skip ?_
                obtain rfl := Option.some.inj hm36
                exact x_sub K34 ⟨rfl, rfl, rfl, rfl, rfl, trivial⟩ (fun _ h => st_pk 1 [0] (by decide) h)
          · have hm30 := iff_ hm27 h29
            refine c_exit (x_exit (ks' := _) rfl ?_)
            obtain rfl := Option.some.inj hm30
            exact x_sub K23 ⟨rfl, rfl, rfl, rfl, trivial⟩ (fun _ h => st_pk 1 [0] (by decide) h)
    · have hm13 := iff_ hm10 h12
      refine c_exit (x_exit (ks' := _) rfl ?_)
      obtain rfl := Option.some.inj hm13
      exact x_sub K6 ⟨rfl, trivial⟩ (fun _ h => st_pk 1 [0] (by decide) h)

def wire_sum (a0 : UInt32) : Str :=
  [a0.toUInt8, (shDr a0 ((8 : UInt64).toNat : Int)).toUInt8, (shDr a0 ((16 : UInt64).toNat : Int)).toUInt8, (shDr a0 ((24 : UInt64).toNat : Int)).toUInt8]
theorem wire_sum.ok {G R F} (a0 : UInt32) (r : Str) (hm : wire_sum a0 = r) : CO Try.prog 71 [vD a0] G R (F)
    (Ret fun u R' L' => u = vS r ∧ R' = R ∧ L' = F) := by
  unfold wire_sum at hm
  refine co_ofN (N := 16) Try.func71 rfl rfl ?_
  refine c_seq ?_
  refine c_reg ?_
  refine r_u (o_as rfl) ?_
  refine r_nil ?_
  refine x_seq ?_
  refine c_seq ?_
  refine c_reg ?_
  refine r_u (o_mv rfl) ?_
  refine r_u (o_cv rfl (cDY Try.underlying35 Try.underlying5 a0)) ?_
  refine r_u (o_mv rfl) ?_
  refine r_u (o_bin rfl rfl (bDW_shr a0 8)) ?_
  refine r_u (o_cv rfl (cDY Try.underlying35 Try.underlying5 (shDr a0 ((8 : UInt64).toNat : Int)))) ?_
  refine r_u (o_mv rfl) ?_
  refine r_u (o_bin rfl rfl (bDW_shr a0 16)) ?_
  refine r_u (o_cv rfl (cDY Try.underlying35 Try.underlying5 (shDr a0 ((16 : UInt64).toNat : Int)))) ?_
  refine r_u (o_mv rfl) ?_
  refine r_u (o_bin rfl rfl (bDW_shr a0 24)) ?_
  refine r_u (o_cv rfl (cDY Try.underlying35 Try.underlying5 (shDr a0 ((24 : UInt64).toNat : Int)))) ?_
  refine r_sw (s_w (o_bsl (en := eY) (sz := 1) (e := 5) (cs := [vY a0.toUInt8, vY ((shDr a0 ((8 : UInt64).toNat : Int)).toUInt8), vY ((shDr a0 ((16 : UInt64).toNat : Int)).toUInt8), vY ((shDr a0 ((24 : UInt64).toNat : Int)).toUInt8)]) (r := [a0.toUInt8, (shDr a0 ((8 : UInt64).toNat : Int)).toUInt8, (shDr a0 ((16 : UInt64).toNat : Int)).toUInt8, (shDr a0 ((24 : UInt64).toNat : Int)).toUInt8]) rfl (fun _ => by kernel_rfl) rfl (by decide) rfl (fun _ => rfl))) ?_
  rintro v0 R _ _ ⟨rfl, rfl⟩
  refine r_u (o_bs 0 Try.underlying40 Try.underlying5 Try.underlying9 rfl rfl) ?_
  refine r_u (o_as rfl) ?_
  refine r_nil ?_
  refine x_seq ?_
  refine c_ret ?_
  subst hm
  refine ex_st (fun _ h => st_pk 1 [] (by decide) h) ?_
  exact x_r1 rfl (rv_t rfl) (Le.refl _) ⟨_, rfl, rfl, rfl, rfl⟩

def wire_Frame (a0 : Str) : Option (Str × Int) :=
  if decide (65536 < (a0.length : Int)) then some ([], 3) else (wire_Text a0).bind fun r3 => if [49].length + r3.length ≤ maxS then (wire_Check ([49] ++ r3)).bind fun r7 => if ([49] ++ r3).length + (wire_sum r7).length ≤ maxS then some (([49] ++ r3) ++ (wire_sum r7), 0) else none else none
theorem wire_Frame.ok {G R F} (a0 : Str) (r : Str × Int) (hm : wire_Frame a0 = some r) : CO Try.prog 23 [vS a0] G R (F)
    (Ret fun u R' L' => u = .tuple #[vS r.1, vI r.2] ∧ R' = R ∧ L' = F) := by
  unfold wire_Frame at hm
  refine co_ofN (N := 18) Try.func23 rfl rfl ?_
  refine c_seq ?_
  refine c_reg ?_
  refine r_u (o_as rfl) ?_
  refine r_u (o_as rfl) ?_
  refine r_nil ?_
  refine x_seq ?_
  refine c_seq ?_
  refine c_seq ?_
  refine c_reg ?_
  refine r_u (o_mv rfl) ?_
  refine r_u (o_lenS Try.underlying9 rfl) ?_
  refine r_u (o_bin rfl rfl (bI_gt (a0.length : Int) 65536)) ?_
  refine r_nil ?_
  refine x_seq ?_
  refine c_if (b := decide (65536 < (a0.length : Int))) rfl (fun h0 => ?_) fun h0 => ?_
  · have hm1 := ift hm h0
    refine c_seq ?_
    refine c_reg ?_
    refine r_u (o_as rfl) ?_
    refine r_u (o_as rfl) ?_
    refine r_nil ?_
    refine x_seq ?_
    refine c_ret ?_
    obtain rfl := Option.some.inj hm1
    exact x_r2 rfl (rv_t rfl) (rv_t rfl) (Le.refl _) ⟨_, rfl, rfl, rfl, rfl⟩
  · have hm1 := iff_ hm h0
    refine c_skip ?_
    refine x_seq ?_
    refine c_seq ?_
    obtain ⟨r3, hr3, hm4⟩ := bs hm1
    obtain ⟨h5, hm6⟩ := ig hm4
    refine c_any mixed (effs := [0]) (V := []) ?_
    refine stage_ext [(2, vS a0), (3, vS r3)] rfl ?_
    refine stage rfl rfl rfl rfl [0, 1, 0, 4, 15, 31] [2, 3] [0] rfl rfl rfl (qc rfl rfl (s_u (o_mv rfl)) (qc rfl rfl (s_u (o_callq ca28 rfl (wire_Text.ok a0 r3 hr3))) qn)) ?_ (fun h => absurd h (by decide))
    refine ec (eo_w rfl (s_w (o_bsl (en := eY) (sz := 1) (e := 5) (cs := [vY 49]) (r := [49]) rfl (fun _ => by kernel_rfl) rfl (by decide) rfl (fun _ => rfl))) ?_) en
    rintro v2 R _ _ ⟨rfl, rfl⟩
    refine stage_ext [(1, vS [49]), (4, vS ([49] ++ r3)), (5, vS ([49] ++ r3))] rfl ?_
    refine stage rfl rfl rfl rfl [0, 1, 0, 4, 15, 31] [1, 2, 3, 4, 5] [] rfl rfl rfl (qc rfl rfl (s_u (o_bs 0 Try.underlying40 Try.underlying5 Try.underlying9 rfl rfl)) (qc rfl rfl (s_u (o_mv rfl)) (qc rfl rfl (s_u (o_callq ca28 rfl (wire_Text.ok a0 r3 hr3))) (qc rfl rfl (s_u (o_bin rfl rfl (bS_add [49] r3 h5))) (qc rfl rfl (s_u (o_as rfl)) qn))))) en ?_
    intro _
    refine ex_sub (E' := [(4, vS ([49] ++ r3))]) ⟨rfl, trivial⟩ ?_
    refine x_seq ?_
    refine c_seq ?_
    refine c_reg ?_
    refine r_u (o_mv rfl) ?_
    refine r_u (o_mv rfl) ?_
    obtain ⟨r7, hr7, hm8⟩ := bs hm6
    refine r_u (o_callq ca21 rfl (wire_Check.ok ([49] ++ r3) r7 hr7)) ?_
    refine r_u (o_callq ca71 rfl (wire_sum.ok r7 _ rfl)) ?_
    obtain ⟨h9, hm10⟩ := ig hm8
    refine r_u (o_bin rfl rfl (bS_add ([49] ++ r3) (wire_sum r7) h9)) ?_
    refine r_u (o_as rfl) ?_
    refine r_u (o_as rfl) ?_
    refine r_nil ?_
    refine x_seq ?_
    refine c_ret ?_
    obtain rfl := Option.some.inj hm10
    refine ex_st (fun _ h => st_pk 1 [] (by decide) h) ?_
    exact x_r2 rfl (rv_t rfl) (rv_t rfl) (Le.refl _) ⟨_, rfl, rfl, rfl, rfl⟩

def wire_Reader_Must (a0 : wire_Reader) (a1 : Bool) : (Unit) ⊕ (Int × Unit) :=
  if !a1 then lt (wire_fail 6) fun r2 => sm r2 (fun (ra4 : Unit) => Sum.inl ()) fun ((rn5, ro6) : Int × Unit) => Sum.inr (rn5, ()) else Sum.inl ()
theorem wire_Reader_Must.ok {G R F} (b0_ : Nat) (a0 : wire_Reader) (a1 : Bool) (r : (Unit) ⊕ (Int × Unit)) (hm : wire_Reader_Must a0 a1 = r) : CO Try.prog 35 [pt b0_ 0, vB a1] G R (Bk b0_ 101 (wire_Reader.c a0) :: F)
    (PK 99 r (fun (a : Unit) u R' L' => u = .tuple #[] ∧ R' = R ∧ L' = Bk b0_ 101 (wire_Reader.c a0) :: F) (fun n (o : Unit) R' L' => R' = R ∧ L' = Bk b0_ 101 (wire_Reader.c a0) :: F)) := by
  unfold wire_Reader_Must at hm
  refine co_ofN (N := 7) Try.func35 rfl rfl ?_
  refine c_seq ?_
  refine c_reg ?_
  refine r_u (o_mv rfl) ?_
  refine r_u (o_not rfl) ?_
  refine r_nil ?_
  refine x_seq ?_
  refine c_if (b := !a1) rfl (fun h0 => ?_) fun h0 => ?_
  · have hm1 := ift hm h0
    obtain ⟨r2, hr2, hm3⟩ := ltx hm1
    rcases r2 with ra4 | ⟨rn5, ro6⟩
    · have hm7 := sm_l hm3
      refine c_reg ?_
      refine r_c (s_w (o_callL ca75 rfl (wire_fail.ok 6 (Sum.inl ra4) hr2) (fun _ _ _ h => h))) ?_
      refine r_nil ?_
      refine x_end ?_
      subst hm7
      exact x_r0 rfl (Le.refl _) (.inl ⟨_, rfl, _, rfl, rfl, rfl, rfl⟩)
    · have hm7 := sm_r hm3
      refine c_reg ?_
      subst hm7
      exact r_sw (s_w (o_callR ca75 rfl (wire_fail.ok 6 (Sum.inr (rn5, ro6)) hr2) (by rintro _ _ _ ⟨rfl, rfl⟩; exact (px_st (fun _ h => st_pk 1 [0] (by decide) h) (px_of (Le.refl _) (.inr ⟨_, rfl, _, rfl, rfl, rfl⟩)))))) (fun _ _ _ _ h => h.elim)
  · have hm1 := iff_ hm h0
    refine c_skip ?_
    refine x_end ?_
    subst hm1
    exact x_r0 rfl (Le.refl _) (.inl ⟨_, rfl, _, rfl, rfl, rfl, rfl⟩)

def wire_Reader_Left (a0 : wire_Reader) : Int :=
  (a0.s.length : Int)
theorem wire_Reader_Left.ok {G R F} (b0_ : Nat) (a0 : wire_Reader) (r : Int) (hm : wire_Reader_Left a0 = r) : CO Try.prog 36 [pt b0_ 0] G R (Bk b0_ 101 (wire_Reader.c a0) :: F)
    (Ret fun u R' L' => u = vI r ∧ R' = R ∧ L' = Bk b0_ 101 (wire_Reader.c a0) :: F) := by
  unfold wire_Reader_Left at hm
  refine co_ofN (N := 8) Try.func36 rfl rfl ?_
  refine c_seq ?_
  refine c_reg ?_
  refine r_u (o_as rfl) ?_
  refine r_nil ?_
  refine x_seq ?_
  refine c_seq ?_
  refine c_reg ?_
  refine r_u (o_mv rfl) ?_
  refine r_u (o_nc rfl) ?_
  refine r_u (o_fa fa101_0 rfl) ?_
  refine r_u (o_ld 0 sc9 rfl rfl rfl) ?_
  refine r_u (o_lenS Try.underlying9 rfl) ?_
  refine r_u (o_as rfl) ?_
  refine r_nil ?_
  refine x_seq ?_
  refine c_ret ?_
  subst hm
  exact x_r1 rfl (rv_t rfl) (Le.refl _) ⟨_, rfl, rfl, rfl, rfl⟩

def wire_Open_1 (a0 : wire_Reader) (a1 : Str) (a2 : Str) : Option ((wire_Reader × Str) ⊕ (Int × (wire_Reader × Str))) :=
  (wire_Reader_Bytes a0 1).bind fun r0 => sm r0 (fun (ra2 : Str × wire_Reader) => (gi ra2.1 0).bind fun c6 => lt (wire_Reader_Must ra2.2 (c6 == 49)) fun r8 => sm r8 (fun (ra10 : Unit) => (wire_Reader_Text ra2.2 65536).bind fun r14 => sm r14 (fun (ra16 : Str × wire_Reader) => (wire_Reader_Bytes ra16.2 4).bind fun r20 => sm r20 (fun (ra22 : Str × wire_Reader) => (sl a2 0 (i64 ((i64 ((a2.length : Int) - 4)) - (wire_Reader_Left ra22.2)))).bind fun s26 => (wire_Check s26).bind fun r28 => lt (wire_Reader_Must ra22.2 (ra22.1 == (wire_sum r28))) fun r30 => sm r30 (fun (ra32 : Unit) => some (Sum.inl (ra22.2, ra16.1))) fun ((rn33, ro34) : Int × Unit) => some (Sum.inr (rn33, (ra22.2, ra16.1)))) fun ((rn23, ro24) : Int × wire_Reader) => some (Sum.inr (rn23, (ro24, ra16.1)))) fun ((rn17, ro18) : Int × wire_Reader) => some (Sum.inr (rn17, (ro18, a1)))) fun ((rn11, ro12) : Int × Unit) => some (Sum.inr (rn11, (ra2.2, a1)))) fun ((rn3, ro4) : Int × wire_Reader) => some (Sum.inr (rn3, (ro4, a1)))
theorem wire_Open_1.ok {G R F} (b0_ : Nat) (a0 : wire_Reader) (b1_ : Nat) (a1 : Str) (b2_ : Nat) (a2 : Str) (r : (wire_Reader × Str) ⊕ (Int × (wire_Reader × Str))) (hm : wire_Open_1 a0 a1 a2 = some r) : CO Try.prog 72 [pt b0_ 0, pt b1_ 0, pt b2_ 0] G R (Bk b0_ 101 (wire_Reader.c a0) :: Bk b1_ 9 [vS a1] :: Bk b2_ 9 [vS a2] :: F)
    (PK 99 r (fun (a : wire_Reader × Str) u R' L' => u = .tuple #[] ∧ R' = R ∧ L' = Bk b0_ 101 (wire_Reader.c a.1) :: Bk b1_ 9 [vS a.2] :: Bk b2_ 9 [vS a2] :: F) (fun n (o : wire_Reader × Str) R' L' => R' = R ∧ L' = Bk b0_ 101 (wire_Reader.c o.1) :: Bk b1_ 9 [vS o.2] :: Bk b2_ 9 [vS a2] :: F)) := by
  unfold wire_Open_1 at hm
  refine co_ofN (N := 29) Try.func72 rfl rfl ?_
  refine c_seq ?_
  obtain ⟨r0, hr0, hm1⟩ := bs hm
  rcases r0 with ra2 | ⟨rn3, ro4⟩
  · have hm5 := sm_l hm1
    obtain ⟨c6, hc6, hm7⟩ := bs hm5
    obtain ⟨r8, hr8, hm9⟩ := ltx hm7
    rcases r8 with ra10 | ⟨rn11, ro12⟩
    · have hm13 := sm_l hm9
      refine c_reg ?_
      refine r_u (o_mv rfl) ?_
      refine r_u (o_mv rfl) ?_
      refine r_c (s_w (o_callL ca34 rfl (wire_Reader_Bytes.ok b0_ a0 1 (Sum.inl ra2) hr0) (fun _ _ _ h => h))) ?_
      refine r_u (o_ixS Try.underlying9 rfl rfl hc6) ?_
      refine r_u (o_bin rfl rfl (bY_eq c6 49)) ?_
      refine r_c (s_w (o_callL ca35 rfl (wire_Reader_Must.ok b0_ ra2.2 (c6 == 49) (Sum.inl ra10) hr8) (fun _ _ _ h => h))) ?_
      refine r_nil ?_
      refine x_seq ?_
      refine c_seq ?_
      obtain ⟨r14, hr14, hm15⟩ := bs hm13
      rcases r14 with ra16 | ⟨rn17, ro18⟩
      · have hm19 := sm_l hm15
        refine c_reg ?_
        refine r_u (o_mv rfl) ?_
        refine r_c (s_w (o_callL ca31 rfl (wire_Reader_Text.ok b0_ ra2.2 65536 (Sum.inl ra16) hr14) (fun _ _ _ h => h))) ?_
        refine rl_st (fun _ h => st_pk 3 [1, 0, 2] (by decide) h) ?_
        refine r_u0 (o_st sc9 rfl rfl rfl rfl rfl rfl) ?_
        refine r_nil ?_
        refine x_seq ?_
        refine c_seq ?_
        obtain ⟨r20, hr20, hm21⟩ := bs hm19
        rcases r20 with ra22 | ⟨rn23, ro24⟩
        · have hm25 := sm_l hm21
          refine c_reg ?_
          refine r_u (o_mv rfl) ?_
          refine rl_st (fun _ h => st_pk 3 [1, 0, 2] (by decide) h) ?_
          refine r_c (s_w (o_callL ca34 rfl (wire_Reader_Bytes.ok b0_ ra16.2 4 (Sum.inl ra22) hr20) (fun _ _ _ h => h))) ?_
          refine r_u (o_as rfl) ?_
          refine r_nil ?_
          refine x_seq ?_
          obtain ⟨s26, hs26, hm27⟩ := bs hm25
          obtain ⟨r28, hr28, hm29⟩ := bs hm27
          obtain ⟨r30, hr30, hm31⟩ := ltx hm29
          rcases r30 with ra32 | ⟨rn33, ro34⟩
          · have hm35 := sm_l hm31
            refine c_any mixed (effs := [7, 13]) (V := []) ?_
            refine stage_ext [(0, pt b0_ 0), (1, vS ra22.1), (2, vS a2), (3, vS a2), (4, vI (a2.length : Int)), (5, vI (i64 ((a2.length : Int) - 4))), (6, pt b0_ 0)] rfl ?_
            refine stage rfl rfl rfl rfl [0, 0, 0, 0, 8, 24, 0, 64, 248, 508, 1020, 2044, 4094, 8191] [0, 1, 2, 3, 4, 5, 6] [7] rfl rfl rfl (qc rfl rfl (s_u (o_mv rfl)) (qc rfl rfl (s_u (o_mv rfl)) (qc rfl rfl (s_u (o_ld 2 sc9 rfl rfl rfl)) (qc rfl rfl (s_u (o_ld 2 sc9 rfl rfl rfl)) (qc rfl rfl (s_u (o_lenS Try.underlying9 rfl)) (qc rfl rfl (s_u (o_bin rfl rfl (bI_sub (a2.length : Int) 4))) (qc rfl rfl (s_u (o_mv rfl)) qn))))))) ?_ (fun h => absurd h (by decide))
            refine ec (eo_c rfl (s_w (o_call ca36 rfl (wire_Reader_Left.ok b0_ ra22.2 _ rfl))) ?_) en
            refine stage_ext [(8, vI (i64 ((i64 ((a2.length : Int) - 4)) - (wire_Reader_Left ra22.2)))), (9, vS s26), (10, vD r28), (11, vS (wire_sum r28)), (12, vB (ra22.1 == (wire_sum r28)))] rfl ?_
            refine stage rfl rfl rfl rfl [0, 0, 0, 0, 8, 24, 0, 64, 248, 508, 1020, 2044, 4094, 8191] [0, 1, 2, 3, 4, 5, 8, 9, 10, 11, 12] [13] rfl rfl rfl (qc rfl rfl (s_u (o_mv rfl)) (qc rfl rfl (s_u (o_mv rfl)) (qc rfl rfl (s_u (o_ld 2 sc9 rfl rfl rfl)) (qc rfl rfl (s_u (o_ld 2 sc9 rfl rfl rfl)) (qc rfl rfl (s_u (o_lenS Try.underlying9 rfl)) (qc rfl rfl (s_u (o_bin rfl rfl (bI_sub (a2.length : Int) 4))) (qc rfl rfl (s_u (o_bin rfl rfl (bI_sub (i64 ((a2.length : Int) - 4)) (wire_Reader_Left ra22.2)))) (qc rfl rfl (s_u (o_slS (i := 0) (j := i64 ((i64 ((a2.length : Int) - 4)) - (wire_Reader_Left ra22.2))) Try.underlying9 rfl rfl rfl hs26)) (qc rfl rfl (s_u (o_callq ca21 rfl (wire_Check.ok s26 r28 hr28))) (qc rfl rfl (s_u (o_callq ca71 rfl (wire_sum.ok r28 _ rfl))) (qc rfl rfl (s_u (o_bin rfl rfl (bS_eq ra22.1 (wire_sum r28)))) qn))))))))))) ?_ (fun h => absurd h (by decide))
            refine ec (eo_c rfl (s_w (o_callL ca35 rfl (wire_Reader_Must.ok b0_ ra22.2 (ra22.1 == (wire_sum r28)) (Sum.inl ra32) hr30) (fun _ _ _ h => h))) ?_) en
            refine stage rfl rfl rfl rfl [0, 0, 0, 0, 8, 24, 0, 64, 248, 508, 1020, 2044, 4094, 8191] [] [] rfl rfl rfl qn en ?_
            intro _
            refine ex_sub (E' := []) trivial ?_
            refine x_end ?_
            obtain rfl := Option.some.inj hm35
            exact x_r0 rfl (Le.refl _) (.inl ⟨_, rfl, _, rfl, rfl, rfl, rfl⟩)
          · have hm35 := sm_r hm31
            refine c_any mixed (effs := [7, 13]) (V := []) ?_
            refine stage_ext [(0, pt b0_ 0), (1, vS ra22.1), (2, vS a2), (3, vS a2), (4, vI (a2.length : Int)), (5, vI (i64 ((a2.length : Int) - 4))), (6, pt b0_ 0)] rfl ?_
            refine stage rfl rfl rfl rfl [0, 0, 0, 0, 8, 24, 0, 64, 248, 508, 1020, 2044, 4094, 8191] [0, 1, 2, 3, 4, 5, 6] [7] rfl rfl rfl (qc rfl rfl (s_u (o_mv rfl)) (qc rfl rfl (s_u (o_mv rfl)) (qc rfl rfl (s_u (o_ld 2 sc9 rfl rfl rfl)) (qc rfl rfl (s_u (o_ld 2 sc9 rfl rfl rfl)) (qc rfl rfl (s_u (o_lenS Try.underlying9 rfl)) (qc rfl rfl (s_u (o_bin rfl rfl (bI_sub (a2.length : Int) 4))) (qc rfl rfl (s_u (o_mv rfl)) qn))))))) ?_ (fun h => absurd h (by decide))
            refine ec (eo_c rfl (s_w (o_call ca36 rfl (wire_Reader_Left.ok b0_ ra22.2 _ rfl))) ?_) en
            refine stage_ext [(8, vI (i64 ((i64 ((a2.length : Int) - 4)) - (wire_Reader_Left ra22.2)))), (9, vS s26), (10, vD r28), (11, vS (wire_sum r28)), (12, vB (ra22.1 == (wire_sum r28)))] rfl ?_
            refine stage rfl rfl rfl rfl [0, 0, 0, 0, 8, 24, 0, 64, 248, 508, 1020, 2044, 4094, 8191] [0, 1, 2, 3, 4, 5, 8, 9, 10, 11, 12] [13] rfl rfl rfl (qc rfl rfl (s_u (o_mv rfl)) (qc rfl rfl (s_u (o_mv rfl)) (qc rfl rfl (s_u (o_ld 2 sc9 rfl rfl rfl)) (qc rfl rfl (s_u (o_ld 2 sc9 rfl rfl rfl)) (qc rfl rfl (s_u (o_lenS Try.underlying9 rfl)) (qc rfl rfl (s_u (o_bin rfl rfl (bI_sub (a2.length : Int) 4))) (qc rfl rfl (s_u (o_bin rfl rfl (bI_sub (i64 ((a2.length : Int) - 4)) (wire_Reader_Left ra22.2)))) (qc rfl rfl (s_u (o_slS (i := 0) (j := i64 ((i64 ((a2.length : Int) - 4)) - (wire_Reader_Left ra22.2))) Try.underlying9 rfl rfl rfl hs26)) (qc rfl rfl (s_u (o_callq ca21 rfl (wire_Check.ok s26 r28 hr28))) (qc rfl rfl (s_u (o_callq ca71 rfl (wire_sum.ok r28 _ rfl))) (qc rfl rfl (s_u (o_bin rfl rfl (bS_eq ra22.1 (wire_sum r28)))) qn))))))))))) ?_ (fun h => absurd h (by decide))
            obtain rfl := Option.some.inj hm35
            exact ec (eo_w rfl (s_w (o_callR ca35 rfl (wire_Reader_Must.ok b0_ ra22.2 (ra22.1 == (wire_sum r28)) (Sum.inr (rn33, ro34)) hr30) (by rintro _ _ _ ⟨rfl, rfl⟩; exact (px_st (fun _ h => st_pk 3 [0, 1, 2] (by decide) h) (px_of (Le.refl _) (.inr ⟨_, rfl, _, rfl, rfl, rfl⟩)))))) (fun _ _ _ _ h => h.elim)) en
        · have hm25 := sm_r hm21
          refine c_reg ?_
          refine r_u (o_mv rfl) ?_
          refine rl_st (fun _ h => st_pk 3 [1, 0, 2] (by decide) h) ?_
          obtain rfl := Option.some.inj hm25
          exact r_sw (s_w (o_callR ca34 rfl (wire_Reader_Bytes.ok b0_ ra16.2 4 (Sum.inr (rn23, ro24)) hr20) (by rintro _ _ _ ⟨rfl, rfl⟩; exact (px_st (fun _ h => st_pk 3 [0, 1, 2] (by decide) h) (px_of (Le.refl _) (.inr ⟨_, rfl, _, rfl, rfl, rfl⟩)))))) (fun _ _ _ _ h => h.elim)
      · have hm19 := sm_r hm15
        refine c_reg ?_
        refine r_u (o_mv rfl) ?_
        obtain rfl := Option.some.inj hm19
        exact r_sw (s_w (o_callR ca31 rfl (wire_Reader_Text.ok b0_ ra2.2 65536 (Sum.inr (rn17, ro18)) hr14) (by rintro _ _ _ ⟨rfl, rfl⟩; exact (px_st (fun _ h => st_pk 3 [0, 1, 2] (by decide) h) (px_of (Le.refl _) (.inr ⟨_, rfl, _, rfl, rfl, rfl⟩)))))) (fun _ _ _ _ h => h.elim)
    · have hm13 := sm_r hm9
      refine c_reg ?_
      refine r_u (o_mv rfl) ?_
      refine r_u (o_mv rfl) ?_
      refine r_c (s_w (o_callL ca34 rfl (wire_Reader_Bytes.ok b0_ a0 1 (Sum.inl ra2) hr0) (fun _ _ _ h => h))) ?_
      refine r_u (o_ixS Try.underlying9 rfl rfl hc6) ?_
      refine r_u (o_bin rfl rfl (bY_eq c6 49)) ?_
      obtain rfl := Option.some.inj hm13
      exact r_sw (s_w (o_callR ca35 rfl (wire_Reader_Must.ok b0_ ra2.2 (c6 == 49) (Sum.inr (rn11, ro12)) hr8) (by rintro _ _ _ ⟨rfl, rfl⟩; exact (px_st (fun _ h => st_pk 3 [0, 1, 2] (by decide) h) (px_of (Le.refl _) (.inr ⟨_, rfl, _, rfl, rfl, rfl⟩)))))) (fun _ _ _ _ h => h.elim)
  · have hm5 := sm_r hm1
    refine c_reg ?_
    refine r_u (o_mv rfl) ?_
    refine r_u (o_mv rfl) ?_
    obtain rfl := Option.some.inj hm5
    exact r_sw (s_w (o_callR ca34 rfl (wire_Reader_Bytes.ok b0_ a0 1 (Sum.inr (rn3, ro4)) hr0) (by rintro _ _ _ ⟨rfl, rfl⟩; exact (px_st (fun _ h => st_pk 3 [0, 1, 2] (by decide) h) (px_of (Le.refl _) (.inr ⟨_, rfl, _, rfl, rfl, rfl⟩)))))) (fun _ _ _ _ h => h.elim)

def wire_Open (a0 : Str) : Option (Str × Int) :=
  (wire_Open_1 (⟨a0⟩ : wire_Reader) [] a0).bind fun r2 => Option.bind (sm r2 (fun (ra10 : wire_Reader × Str) => some ((if ra10.1.s == [] then 0 else 5), ra10.2)) fun ((rn11, ro12) : Int × (wire_Reader × Str)) => some (rn11, ro12.2)) fun p4 => if (p4.1 != 0) then some ([], p4.1) else some (p4.2, 0)
theorem wire_Open.ok {G R F} (a0 : Str) (r : Str × Int) (hm : wire_Open a0 = some r) : CO Try.prog 24 [vS a0] G R (F)
    (Ret fun u R' L' => u = .tuple #[vS r.1, vI r.2] ∧ R' = R ∧ L' = F) := by
  unfold wire_Open at hm
  refine co_ofN (N := 13) Try.func24 rfl rfl ?_
  refine c_seq ?_
  refine c_reg ?_
  refine r_new (o_bx [vS a0] rfl rfl) fun b0 => ?_
  refine r_u (o_as rfl) ?_
  refine r_u (o_as rfl) ?_
  refine r_nil ?_
  refine x_seq ?_
  refine c_seq ?_
  refine c_reg ?_
  refine r_new (o_al ze9) fun b1 => ?_
  refine r_u0 (o_st sc9 rfl rfl rfl rfl rfl rfl) ?_
  refine r_nil ?_
  refine x_seq ?_
  refine c_seq ?_
  obtain ⟨r2, hr2, hm3⟩ := bs hm
  obtain ⟨p4, hp5, hm6⟩ := bs hm3
  refine cd_join (E' := [(4, pt b1 0), (5, vI p4.1)]) (L' := Bk b1 9 [vS p4.2] :: Bk b0 9 [vS a0] :: F) ?_ fun K7 => ?_
  · refine x_seq ?_
    refine c_seq ?_
    refine c_seq ?_
    refine c_reg ?_
    refine r_u (o_mv rfl) ?_
    refine r_u (o_bin rfl rfl (bI_ne p4.1 0)) ?_
    refine r_nil ?_
    refine x_seq ?_
    refine c_if (b := (p4.1 != 0)) rfl (fun h8 => ?_) fun h8 => ?_
    · have hm9 := ift hm6 h8
      refine c_seq ?_
      refine c_reg ?_
      refine r_u (o_mv rfl) ?_
      refine r_u (o_as rfl) ?_
      refine r_u (o_as rfl) ?_
      refine r_nil ?_
      refine x_seq ?_
      refine c_ret ?_
      obtain rfl := Option.some.inj hm9
      refine ex_st (fun _ h => st_pk 2 [] (by decide) h) ?_
      exact x_r2 rfl (rv_t rfl) (rv_t rfl) (Le.refl _) ⟨_, rfl, rfl, rfl, rfl⟩
    · have hm9 := iff_ hm6 h8
      refine c_skip ?_
      refine x_seq ?_
      refine c_seq ?_
      refine c_reg ?_
      refine r_u (o_ld 0 sc9 rfl rfl rfl) ?_
      refine r_u (o_as rfl) ?_
      refine r_u (o_as rfl) ?_
      refine r_nil ?_
      refine x_seq ?_
      refine c_ret ?_
      obtain rfl := Option.some.inj hm9
      refine ex_st (fun _ h => st_pk 2 [] (by decide) h) ?_
      exact x_r2 rfl (rv_t rfl) (rv_t rfl) (Le.refl _) ⟨_, rfl, rfl, rfl, rfl⟩
  · rcases r2 with ra10 | ⟨rn11, ro12⟩
    · have hm13 := sm_l hp5
      refine c_reg ?_
      refine r_u (o_ld 1 sc9 rfl rfl rfl) ?_
      refine r_u (o_mf rfl) ?_
      refine r_c (s_w (o_call ca27 rfl (wire_Read.okL (A := [Bk b1 9 [vS []], Bk b0 9 [vS a0]]) (M := [Bk b1 9 [vS ra10.2], Bk b0 9 [vS a0]]) (s' := ra10.1.s) ca72 (fun b F => co_l (wire_Open_1.ok b (⟨a0⟩ : wire_Reader) b1 [] b0 a0 (Sum.inl ra10) hr2) (fun _ _ _ h => h))))) ?_
      refine r_u (o_as rfl) ?_
      refine r_nil ?_
      obtain rfl := Option.some.inj hm13
      exact x_sub K7 ⟨rfl, rfl, trivial⟩ (fun _ h => st_pk 2 [0, 1] (by decide) h)
    · have hm13 := sm_r hp5
      refine c_reg ?_
      refine r_u (o_ld 1 sc9 rfl rfl rfl) ?_
      refine r_u (o_mf rfl) ?_
      refine r_c (s_w (o_call ca27 rfl (wire_Read.okR (A := [Bk b1 9 [vS []], Bk b0 9 [vS a0]]) (M := [Bk b1 9 [vS ro12.2], Bk b0 9 [vS a0]]) (cs := [vS ro12.1.s]) ca72 (fun b F => co_r (wire_Open_1.ok b (⟨a0⟩ : wire_Reader) b1 [] b0 a0 (Sum.inr (rn11, ro12)) hr2) (fun _ _ h => h))))) ?_
      refine r_u (o_as rfl) ?_
      refine r_nil ?_
      obtain rfl := Option.some.inj hm13
      exact x_sub K7 ⟨rfl, rfl, trivial⟩ (fun _ h => st_pk 2 [0, 1] (by decide) h)

def hawthornlaw03_num_1 (a0 : wire_Reader) (a1 : UInt64) (a2 : UInt64) : Option ((wire_Reader × UInt64) ⊕ (Int × (wire_Reader × UInt64))) :=
  (wire_Reader_Num a0 a1).bind fun r0 => sm r0 (fun (ra2 : UInt64 × wire_Reader) => some (Sum.inl (ra2.2, ra2.1))) fun ((rn3, ro4) : Int × wire_Reader) => some (Sum.inr (rn3, (ro4, a2)))
theorem hawthornlaw03_num_1.ok {G R F} (b0_ : Nat) (a0 : wire_Reader) (b1_ : Nat) (a1 : UInt64) (b2_ : Nat) (a2 : UInt64) (r : (wire_Reader × UInt64) ⊕ (Int × (wire_Reader × UInt64))) (hm : hawthornlaw03_num_1 a0 a1 a2 = some r) : CO Try.prog 68 [pt b0_ 0, pt b1_ 0, pt b2_ 0] G R (Bk b0_ 101 (wire_Reader.c a0) :: Bk b1_ 22 [vW a1] :: Bk b2_ 22 [vW a2] :: F)
    (PK 99 r (fun (a : wire_Reader × UInt64) u R' L' => u = .tuple #[] ∧ R' = R ∧ L' = Bk b0_ 101 (wire_Reader.c a.1) :: Bk b1_ 22 [vW a1] :: Bk b2_ 22 [vW a.2] :: F) (fun n (o : wire_Reader × UInt64) R' L' => R' = R ∧ L' = Bk b0_ 101 (wire_Reader.c o.1) :: Bk b1_ 22 [vW a1] :: Bk b2_ 22 [vW o.2] :: F)) := by
  unfold hawthornlaw03_num_1 at hm
  refine co_ofN (N := 7) Try.func68 rfl rfl ?_
  obtain ⟨r0, hr0, hm1⟩ := bs hm
  rcases r0 with ra2 | ⟨rn3, ro4⟩
  · have hm5 := sm_l hm1
    refine c_reg ?_
    refine r_u (o_mv rfl) ?_
    refine r_u (o_ld 1 sc22 rfl rfl rfl) ?_
    refine r_c (s_w (o_callL ca30 rfl (wire_Reader_Num.ok b0_ a0 a1 (Sum.inl ra2) hr0) (fun _ _ _ h => h))) ?_
    refine rl_st (fun _ h => st_pk 3 [2, 0, 1] (by decide) h) ?_
    refine r_u0 (o_st sc22 rfl rfl rfl rfl rfl rfl) ?_
    refine r_nil ?_
    refine x_end ?_
    obtain rfl := Option.some.inj hm5
    refine ex_st (fun _ h => st_pk 3 [1, 2, 0] (by decide) h) ?_
    exact x_r0 rfl (Le.refl _) (.inl ⟨_, rfl, _, rfl, rfl, rfl, rfl⟩)
  · have hm5 := sm_r hm1
    refine c_reg ?_
    refine r_u (o_mv rfl) ?_
    refine r_u (o_ld 1 sc22 rfl rfl rfl) ?_
    obtain rfl := Option.some.inj hm5
    exact r_sw (s_w (o_callR ca30 rfl (wire_Reader_Num.ok b0_ a0 a1 (Sum.inr (rn3, ro4)) hr0) (by rintro _ _ _ ⟨rfl, rfl⟩; exact (px_st (fun _ h => st_pk 3 [0, 1, 2] (by decide) h) (px_of (Le.refl _) (.inr ⟨_, rfl, _, rfl, rfl, rfl⟩)))))) (fun _ _ _ _ h => h.elim)

def hawthornlaw03_num (a0 : Str) (a1 : UInt64) : Option (UInt64 × Int) :=
  (hawthornlaw03_num_1 (⟨a0⟩ : wire_Reader) a1 0).bind fun r2 => sm r2 (fun (ra4 : wire_Reader × UInt64) => some (ra4.2, (if ra4.1.s == [] then 0 else 5))) fun ((rn5, ro6) : Int × (wire_Reader × UInt64)) => some (ro6.2, rn5)
theorem hawthornlaw03_num.ok {G R F} (a0 : Str) (a1 : UInt64) (r : UInt64 × Int) (hm : hawthornlaw03_num a0 a1 = some r) : CO Try.prog 14 [vS a0, vW a1] G R (F)
    (Ret fun u R' L' => u = .tuple #[vW r.1, vI r.2] ∧ R' = R ∧ L' = F) := by
  unfold hawthornlaw03_num at hm
  refine co_ofN (N := 13) Try.func14 rfl rfl ?_
  refine c_seq ?_
  refine c_reg ?_
  refine r_new (o_bx [vW a1] rfl rfl) fun b0 => ?_
  refine r_u (o_as rfl) ?_
  refine r_u (o_as rfl) ?_
  refine r_nil ?_
  refine x_seq ?_
  refine c_seq ?_
  refine c_reg ?_
  refine r_new (o_al ze22) fun b1 => ?_
  refine r_u0 (o_st sc22 rfl rfl rfl rfl rfl rfl) ?_
  refine r_nil ?_
  refine x_seq ?_
  refine c_seq ?_
  obtain ⟨r2, hr2, hm3⟩ := bs hm
  rcases r2 with ra4 | ⟨rn5, ro6⟩
  · have hm7 := sm_l hm3
    refine c_reg ?_
    refine r_u (o_mv rfl) ?_
    refine r_u (o_mf rfl) ?_
    refine rl_st (fun _ h => st_pk 2 [1, 0] (by decide) h) ?_
    refine r_c (s_w (o_call ca27 rfl (wire_Read.okL (A := [Bk b0 22 [vW a1], Bk b1 22 [vW 0]]) (M := [Bk b0 22 [vW a1], Bk b1 22 [vW ra4.2]]) (s' := ra4.1.s) ca68 (fun b F => co_l (hawthornlaw03_num_1.ok b (⟨a0⟩ : wire_Reader) b0 a1 b1 0 (Sum.inl ra4) hr2) (fun _ _ _ h => h))))) ?_
    refine r_u (o_as rfl) ?_
    refine r_nil ?_
    refine x_seq ?_
    refine c_seq ?_
    refine c_reg ?_
    refine r_u (o_ld 1 sc22 rfl rfl rfl) ?_
    refine r_u (o_mv rfl) ?_
    refine r_u (o_as rfl) ?_
    refine r_u (o_as rfl) ?_
    refine r_nil ?_
    refine x_seq ?_
    refine c_ret ?_
    obtain rfl := Option.some.inj hm7
    refine ex_st (fun _ h => st_pk 2 [] (by decide) h) ?_
    exact x_r2 rfl (rv_t rfl) (rv_t rfl) (Le.refl _) ⟨_, rfl, rfl, rfl, rfl⟩
  · have hm7 := sm_r hm3
    refine c_reg ?_
    refine r_u (o_mv rfl) ?_
    refine r_u (o_mf rfl) ?_
    refine rl_st (fun _ h => st_pk 2 [1, 0] (by decide) h) ?_
    refine r_c (s_w (o_call ca27 rfl (wire_Read.okR (A := [Bk b0 22 [vW a1], Bk b1 22 [vW 0]]) (M := [Bk b0 22 [vW a1], Bk b1 22 [vW ro6.2]]) (cs := [vS ro6.1.s]) ca68 (fun b F => co_r (hawthornlaw03_num_1.ok b (⟨a0⟩ : wire_Reader) b0 a1 b1 0 (Sum.inr (rn5, ro6)) hr2) (fun _ _ h => h))))) ?_
    refine r_u (o_as rfl) ?_
    refine r_nil ?_
    refine x_seq ?_
    refine c_seq ?_
    refine c_reg ?_
    refine r_u (o_ld 1 sc22 rfl rfl rfl) ?_
    refine r_u (o_mv rfl) ?_
    refine r_u (o_as rfl) ?_
    refine r_u (o_as rfl) ?_
    refine r_nil ?_
    refine x_seq ?_
    refine c_ret ?_
    obtain rfl := Option.some.inj hm7
    refine ex_st (fun _ h => st_pk 2 [] (by decide) h) ?_
    exact x_r2 rfl (rv_t rfl) (rv_t rfl) (Le.refl _) ⟨_, rfl, rfl, rfl, rfl⟩

def hawthornlaw03_awake  : Option Bool :=
  (wire_Frame [116, 101, 120, 116]).bind fun r0 => (wire_Open r0.1).bind fun r2 => (wire_Num 300).bind fun r4 => (hawthornlaw03_num r4 1000).bind fun r6 => some (((((r0.2 == 0) && (r2.2 == 0)) && (r2.1 == [116, 101, 120, 116])) && (r6.2 == 0)) && (r6.1 == 300))
theorem hawthornlaw03_awake.ok {G R F} (r : Bool) (hm : hawthornlaw03_awake = some r) : CO Try.prog 18 [] G R (F)
    (Ret fun u R' L' => u = vB r ∧ R' = R ∧ L' = F) := by
  unfold hawthornlaw03_awake at hm
  refine co_ofN (N := 39) Try.func18 rfl rfl ?_
  refine c_seq ?_
  refine c_reg ?_
  refine r_u (o_as rfl) ?_
  refine r_nil ?_
  refine x_seq ?_
  refine c_seq ?_
  refine c_reg ?_
  obtain ⟨r0, hr0, hm1⟩ := bs hm
  refine r_u (o_callq ca23 rfl (wire_Frame.ok [116, 101, 120, 116] r0 hr0)) ?_
  refine r_u (o_mv rfl) ?_
  refine r_u (o_ext rfl rfl) ?_
  refine r_u (o_ext rfl rfl) ?_
  refine r_u (o_as rfl) ?_
  refine r_u (o_as rfl) ?_
  refine r_nil ?_
  refine x_seq ?_
  refine c_seq ?_
  refine c_reg ?_
  refine r_u (o_mv rfl) ?_
  obtain ⟨r2, hr2, hm3⟩ := bs hm1
  refine r_u (o_callq ca24 rfl (wire_Open.ok r0.1 r2 hr2)) ?_
  refine r_u (o_mv rfl) ?_
  refine r_u (o_ext rfl rfl) ?_
  refine r_u (o_ext rfl rfl) ?_
  refine r_u (o_as rfl) ?_
  refine r_u (o_as rfl) ?_
  refine r_nil ?_
  refine x_seq ?_
  refine c_seq ?_
  refine c_reg ?_
  obtain ⟨r4, hr4, hm5⟩ := bs hm3
  refine r_u (o_callq ca17 rfl (wire_Num.ok 300 r4 hr4)) ?_
  obtain ⟨r6, hr6, hm7⟩ := bs hm5
  refine r_u (o_callq ca14 rfl (hawthornlaw03_num.ok r4 1000 r6 hr6)) ?_
  refine r_u (o_mv rfl) ?_
  refine r_u (o_ext rfl rfl) ?_
  refine r_u (o_ext rfl rfl) ?_
  refine r_u (o_as rfl) ?_
  refine r_u (o_as rfl) ?_
  refine r_nil ?_
  refine x_seq ?_
  refine c_seq ?_
  refine c_reg ?_
  refine r_u (o_mv rfl) ?_
  refine r_u (o_bin rfl rfl (bI_eq r0.2 0)) ?_
  refine r_u (o_mv rfl) ?_
  refine r_s (s_gt rfl rfl fun g => o_mv rfl) ?_
  refine r_s (s_gt rfl rfl fun g => o_bin (evg rfl g) rfl (bI_eq r2.2 0)) ?_
  refine r_u (o_and rfl rfl) ?_
  refine r_u (o_mv rfl) ?_
  refine r_s (s_gt rfl rfl fun g => o_mv rfl) ?_
  refine r_s (s_gt rfl rfl fun g => o_bin (evg rfl g) rfl (bS_eq r2.1 [116, 101, 120, 116])) ?_
  refine r_u (o_and rfl rfl) ?_
  refine r_u (o_mv rfl) ?_
  refine r_s (s_gt rfl rfl fun g => o_mv rfl) ?_
  refine r_s (s_gt rfl rfl fun g => o_bin (evg rfl g) rfl (bI_eq r6.2 0)) ?_
  refine r_u (o_and rfl rfl) ?_
  refine r_u (o_mv rfl) ?_
  refine r_s (s_gt rfl rfl fun g => o_mv rfl) ?_
  refine r_s (s_gt rfl rfl fun g => o_bin (evg rfl g) rfl (bW_eq r6.1 300)) ?_
  refine r_u (o_and rfl rfl) ?_
  refine r_u (o_as rfl) ?_
  refine r_nil ?_
  refine x_seq ?_
  refine c_ret ?_
  obtain rfl := Option.some.inj hm7
  exact x_r1 rfl (rv_t rfl) (Le.refl _) ⟨_, rfl, rfl, rfl, rfl⟩

def hawthornref03_Num_l0  : Nat → UInt64 → Str → Option (UInt64 × Str)
  | 0, _, _ => none
  | k9 + 1, n_7, s_8 => if decide (127 < n_7) then if s_8.length + [(128 + (n_7 % 128)).toUInt8].length ≤ maxS then hawthornref03_Num_l0 k9 (n_7 / 128) (s_8 ++ [(128 + (n_7 % 128)).toUInt8]) else none else some (n_7, s_8)
def hawthornref03_Num (a0 : UInt64) : Option Str :=
  Option.bind (hawthornref03_Num_l0 11 a0 []) fun p0 => if p0.2.length + [p0.1.toUInt8].length ≤ maxS then some (p0.2 ++ [p0.1.toUInt8]) else none
theorem hawthornref03_Num.ok {G R F} (a0 : UInt64) (r : Str) (hm : hawthornref03_Num a0 = some r) : CO Try.prog 19 [vW a0] G R (F)
    (Ret fun u R' L' => u = vS r ∧ R' = R ∧ L' = F) := by
  unfold hawthornref03_Num at hm
  refine co_ofN (N := 22) Try.func19 rfl rfl ?_
  refine c_seq ?_
  refine c_reg ?_
  refine r_u (o_as rfl) ?_
  refine r_nil ?_
  refine x_seq ?_
  refine c_seq ?_
  refine c_reg ?_
  refine r_u (o_as rfl) ?_
  refine r_nil ?_
  refine x_seq ?_
  refine c_seq ?_
  obtain ⟨p0, hp1, hm2⟩ := bs hm
  refine cd_join (E' := [(0, vW p0.1), (3, vS p0.2)]) (L' := F) ?_ fun K3 => ?_
  · refine x_seq ?_
    refine c_seq ?_
    refine c_reg ?_
    refine r_u (o_mv rfl) ?_
    refine r_u (o_mv rfl) ?_
    refine r_u (o_cv rfl (cWY Try.underlying22 Try.underlying5 p0.1)) ?_
    refine r_sw (s_w (o_bsl (en := eY) (sz := 1) (e := 5) (cs := [vY p0.1.toUInt8]) (r := [p0.1.toUInt8]) rfl (fun _ => by kernel_rfl) rfl (by decide) rfl (fun _ => rfl))) ?_
    rintro v4 R _ _ ⟨rfl, rfl⟩
    refine r_u (o_bs 0 Try.underlying40 Try.underlying5 Try.underlying9 rfl rfl) ?_
    obtain ⟨h5, hm6⟩ := ig hm2
    refine r_u (o_bin rfl rfl (bS_add p0.2 [p0.1.toUInt8] h5)) ?_
    refine r_u (o_as rfl) ?_
    refine r_nil ?_
    refine x_seq ?_
    refine c_ret ?_
    obtain rfl := Option.some.inj hm6
    refine ex_st (fun _ h => st_pk 1 [] (by decide) h) ?_
    exact x_r1 rfl (rv_t rfl) (Le.refl _) ⟨_, rfl, rfl, rfl, rfl⟩
  · refine c_blk ?_
    refine cd_loop (M := fun k9 (s : UInt64 × Str) => hawthornref03_Num_l0 k9 s.1 s.2 = some p0) (Ef := fun (s : UInt64 × Str) => [(0, vW s.1), (3, vS s.2)]) (Lf := fun (s : UInt64 × Str) => F) 11 (a0, []) hp1 ⟨rfl, rfl, trivial⟩ (fun _ h => h) (fun _ h => by cases h) fun k9 s hM11 => ?_
    obtain ⟨n_7, s_8⟩ := s
    have hm10 : hawthornref03_Num_l0 (k9 + 1) n_7 s_8 = some p0 := hM11
    rw [hawthornref03_Num_l0] at hm10
    refine c_seq ?_
    refine c_seq ?_
    refine c_reg ?_
    refine r_u (o_mv rfl) ?_
    refine r_u (o_bin rfl rfl (bW_gt n_7 127)) ?_
    refine r_nil ?_
    refine x_seq ?_
    refine c_if (b := decide (127 < n_7)) rfl (fun h12 => ?_) fun h12 => ?_
    · have hm13 := ift hm10 h12
      refine c_skip ?_
      refine x_seq ?_
      refine c_blk ?_
      refine c_seq ?_
      refine c_reg ?_
      refine r_u (o_mv rfl) ?_
      refine r_u (o_mv rfl) ?_
      refine r_u (o_bin rfl rfl (bW_rem n_7 128 (by decide))) ?_
      refine r_u (o_bin rfl rfl (bW_add 128 (n_7 % 128))) ?_
      refine r_u (o_cv rfl (cWY Try.underlying22 Try.underlying5 (128 + (n_7 % 128)))) ?_
      refine r_sw (s_w (o_bsl (en := eY) (sz := 1) (e := 5) (cs := [vY ((128 + (n_7 % 128)).toUInt8)]) (r := [(128 + (n_7 % 128)).toUInt8]) rfl (fun _ => by kernel_rfl) rfl (by decide) rfl (fun _ => rfl))) ?_
      rintro v14 R _ _ ⟨rfl, rfl⟩
      refine r_u (o_bs 0 Try.underlying40 Try.underlying5 Try.underlying9 rfl rfl) ?_
      obtain ⟨h15, hm16⟩ := ig hm13
      refine r_u (o_bin rfl rfl (bS_add s_8 [(128 + (n_7 % 128)).toUInt8] h15)) ?_
      refine r_u (o_as rfl) ?_
      refine r_nil ?_
      refine x_seq ?_
      refine c_reg ?_
      refine r_u (o_mv rfl) ?_
      refine r_u (o_bin rfl rfl (bW_quo n_7 128 (by decide))) ?_
      refine r_u (o_as rfl) ?_
      refine r_nil ?_
      refine x_blk ?_
      exact x_lp (n_7 / 128, s_8 ++ [(128 + (n_7 % 128)).toUInt8]) hm16 ⟨rfl, rfl, trivial⟩ (fun _ h => st_pk 1 [] (by decide) h)
    · have hm13 := iff_ hm10 h12
      refine c_exit (x_exit (ks' := _) rfl ?_)
      obtain rfl := Option.some.inj hm13
      exact x_sub K3 ⟨rfl, rfl, trivial⟩ (fun _ h => st_pk 0 [] (by decide) h)

def hawthornref03_Text (a0 : Str) : Option Str :=
  (hawthornref03_Num (toW (a0.length : Int))).bind fun r0 => if r0.length + a0.length ≤ maxS then some (r0 ++ a0) else none
theorem hawthornref03_Text.ok {G R F} (a0 : Str) (r : Str) (hm : hawthornref03_Text a0 = some r) : CO Try.prog 43 [vS a0] G R (F)
    (Ret fun u R' L' => u = vS r ∧ R' = R ∧ L' = F) := by
  unfold hawthornref03_Text at hm
  refine co_ofN (N := 9) Try.func43 rfl rfl ?_
  refine c_seq ?_
  refine c_reg ?_
  refine r_u (o_as rfl) ?_
  refine r_nil ?_
  refine x_seq ?_
  refine c_seq ?_
  refine c_reg ?_
  refine r_u (o_mv rfl) ?_
  refine r_u (o_lenS Try.underlying9 rfl) ?_
  refine r_u (o_cv rfl (cIW Try.underlying3 Try.underlying22 (a0.length : Int))) ?_
  obtain ⟨r0, hr0, hm1⟩ := bs hm
  refine r_u (o_callq ca19 rfl (hawthornref03_Num.ok (toW (a0.length : Int)) r0 hr0)) ?_
  refine r_u (o_mv rfl) ?_
  obtain ⟨h2, hm3⟩ := ig hm1
  refine r_u (o_bin rfl rfl (bS_add r0 a0 h2)) ?_
  refine r_u (o_as rfl) ?_
  refine r_nil ?_
  refine x_seq ?_
  refine c_ret ?_
  obtain rfl := Option.some.inj hm3
  exact x_r1 rfl (rv_t rfl) (Le.refl _) ⟨_, rfl, rfl, rfl, rfl⟩

def wire_Flag (a0 : Bool) : Str :=
  if a0 then [1] else [0]
theorem wire_Flag.ok {G R F} (a0 : Bool) (r : Str) (hm : wire_Flag a0 = r) : CO Try.prog 44 [vB a0] G R (F)
    (Ret fun u R' L' => u = vS r ∧ R' = R ∧ L' = F) := by
  unfold wire_Flag at hm
  refine co_ofN (N := 4) Try.func44 rfl rfl ?_
  refine c_seq ?_
  refine c_reg ?_
  refine r_u (o_as rfl) ?_
  refine r_nil ?_
  refine x_seq ?_
  refine c_seq ?_
  refine c_seq ?_
  refine c_reg ?_
  refine r_u (o_mv rfl) ?_
  refine r_nil ?_
  refine x_seq ?_
  refine c_if (b := a0) rfl (fun h0 => ?_) fun h0 => ?_
  · have hm1 := ift hm h0
    refine c_seq ?_
    refine c_reg ?_
    refine r_u (o_as rfl) ?_
    refine r_nil ?_
    refine x_seq ?_
    refine c_ret ?_
    subst hm1
    exact x_r1 rfl (rv_t rfl) (Le.refl _) ⟨_, rfl, rfl, rfl, rfl⟩
  · have hm1 := iff_ hm h0
    refine c_skip ?_
    refine x_seq ?_
    refine c_seq ?_
    refine c_reg ?_
    refine r_u (o_as rfl) ?_
    refine r_nil ?_
    refine x_seq ?_
    refine c_ret ?_
    subst hm1
    exact x_r1 rfl (rv_t rfl) (Le.refl _) ⟨_, rfl, rfl, rfl, rfl⟩

def hawthornref03_At_End (a0 : hawthornref03_At) : Int :=
  if ((a0.Err == 0) && (a0.S != [])) then 5 else a0.Err
theorem hawthornref03_At_End.ok {G R F} (a0 : hawthornref03_At) (r : Int) (hm : hawthornref03_At_End a0 = r) : CO Try.prog 20 [.agg (hawthornref03_At.c a0).toArray] G R (F)
    (Ret fun u R' L' => u = vI r ∧ R' = R ∧ L' = F) := by
  unfold hawthornref03_At_End at hm
  refine co_ofN (N := 13) Try.func20 rfl rfl ?_
  refine c_seq ?_
  refine c_reg ?_
  refine r_new (o_bx (hawthornref03_At.c a0) rfl rfl) fun b0 => ?_
  refine r_u (o_as rfl) ?_
  refine r_nil ?_
  refine x_seq ?_
  refine c_seq ?_
  refine c_seq ?_
  refine c_reg ?_
  refine r_u (o_fa fa28_1 rfl) ?_
  refine r_u (o_ld 0 sc3 rfl rfl rfl) ?_
  refine r_u (o_bin rfl rfl (bI_eq a0.Err 0)) ?_
  refine r_u (o_mv rfl) ?_
  refine r_s (s_gt rfl rfl fun g => o_fa fa28_0 rfl) ?_
  refine r_s (s_gt rfl rfl fun g => o_ld 0 sc9 (evg rfl g) rfl rfl) ?_
  refine r_s (s_gt rfl rfl fun g => o_bin (evg rfl g) rfl (bS_ne a0.S [])) ?_
  refine r_u (o_and rfl rfl) ?_
  refine r_nil ?_
  refine x_seq ?_
  refine c_if (b := ((a0.Err == 0) && (a0.S != []))) rfl (fun h1 => ?_) fun h1 => ?_
  · have hm2 := ift hm h1
    refine c_seq ?_
    refine c_reg ?_
    refine r_u (o_as rfl) ?_
    refine r_nil ?_
    refine x_seq ?_
    refine c_ret ?_
    subst hm2
    refine ex_st (fun _ h => st_pk 1 [] (by decide) h) ?_
    exact x_r1 rfl (rv_t rfl) (Le.refl _) ⟨_, rfl, rfl, rfl, rfl⟩
  · have hm2 := iff_ hm h1
    refine c_skip ?_
    refine x_seq ?_
    refine c_seq ?_
    refine c_reg ?_
    refine r_u (o_fa fa28_1 rfl) ?_
    refine r_u (o_ld 0 sc3 rfl rfl rfl) ?_
    refine r_u (o_as rfl) ?_
    refine r_nil ?_
    refine x_seq ?_
    refine c_ret ?_
    subst hm2
    refine ex_st (fun _ h => st_pk 1 [] (by decide) h) ?_
    exact x_r1 rfl (rv_t rfl) (Le.refl _) ⟨_, rfl, rfl, rfl, rfl⟩

def hawthornlaw03_WireTexts (a0 : Str) (a1 : Str) (a2 : Int) : Option Bool :=
  (hawthornlaw03_few a0).bind fun r0 => (hawthornlaw03_few a1).bind fun r2 => (hawthornlaw03_text r2 a2).bind fun r4 => (hawthornlaw03_flag r2).bind fun r6 => (hawthornref03_At_Text (⟨r2, 0⟩ : hawthornref03_At) a2).bind fun r8 => (hawthornref03_At_Flag (⟨r2, 0⟩ : hawthornref03_At)).bind fun r11 => (wire_Text r0).bind fun r14 => (hawthornlaw03_text r14 (r0.length : Int)).bind fun r16 => (hawthornlaw03_awake).bind fun r18 => if r18 then (hawthornref03_Text r0).bind fun r22 => some (((((((((r14 == r22) && ((wire_Flag true) == [1])) && ((wire_Flag false) == [0])) && (r4.2 == (hawthornref03_At_End r8.1))) && ((r8.1.Err != 0) || (r4.1 == r8.2))) && (r6.2 == (hawthornref03_At_End r11.1))) && ((r11.1.Err != 0) || (r6.1 == r11.2))) && (r16.2 == 0)) && (r16.1 == r0)) else some false
theorem hawthornlaw03_WireTexts.ok {G R F} (a0 : Str) (a1 : Str) (a2 : Int) (r : Bool) (hm : hawthornlaw03_WireTexts a0 a1 a2 = some r) : CO Try.prog 10 [vS a0, vS a1, vI a2] G R (F)
    (Ret fun u R' L' => u = vB r ∧ R' = R ∧ L' = F) := by
  unfold hawthornlaw03_WireTexts at hm
  refine co_ofN (N := 112) Try.func10 rfl rfl ?_
  refine c_seq ?_
  refine c_reg ?_
  refine r_u (o_as rfl) ?_
  refine r_nil ?_
  refine x_seq ?_
  refine c_seq ?_
  refine c_reg ?_
  refine r_u (o_mv rfl) ?_
  obtain ⟨r0, hr0, hm1⟩ := bs hm
  refine r_u (o_callq ca15 rfl (hawthornlaw03_few.ok a0 r0 hr0)) ?_
  refine r_u (o_mv rfl) ?_
  obtain ⟨r2, hr2, hm3⟩ := bs hm1
  refine r_u (o_callq ca15 rfl (hawthornlaw03_few.ok a1 r2 hr2)) ?_
  refine r_u (o_as rfl) ?_
  refine r_u (o_as rfl) ?_
  refine r_nil ?_
  refine x_seq ?_
  refine c_seq ?_
  refine c_reg ?_
  refine r_u (o_mv rfl) ?_
  refine r_u (o_mv rfl) ?_
  obtain ⟨r4, hr4, hm5⟩ := bs hm3
  refine r_u (o_callq ca41 rfl (hawthornlaw03_text.ok r2 a2 r4 hr4)) ?_
  refine r_u (o_mv rfl) ?_
  refine r_u (o_ext rfl rfl) ?_
  refine r_u (o_ext rfl rfl) ?_
  refine r_u (o_as rfl) ?_
  refine r_u (o_as rfl) ?_
  refine r_nil ?_
  refine x_seq ?_
  refine c_seq ?_
  refine c_reg ?_
  refine r_u (o_mv rfl) ?_
  obtain ⟨r6, hr6, hm7⟩ := bs hm5
  refine r_u (o_callq ca42 rfl (hawthornlaw03_flag.ok r2 r6 hr6)) ?_
  refine r_u (o_mv rfl) ?_
  refine r_u (o_ext rfl rfl) ?_
  refine r_u (o_ext rfl rfl) ?_
  refine r_u (o_as rfl) ?_
  refine r_u (o_as rfl) ?_
  refine r_nil ?_
  refine x_seq ?_
  refine c_seq ?_
  refine c_reg ?_
  refine r_u (o_mv rfl) ?_
  refine r_u (o_bld [vS r2, vI 0] rfl (fun _ => by kernel_rfl)) ?_
  refine r_u (o_mv rfl) ?_
  obtain ⟨r8, hr8, hm9⟩ := bs hm7
  refine r_u (o_callq ca37 rfl (hawthornref03_At_Text.ok (⟨r2, 0⟩ : hawthornref03_At) a2 r8 hr8)) ?_
  refine r_u (o_mv rfl) ?_
  refine r_u (o_ext rfl rfl) ?_
  refine r_u (o_ext rfl rfl) ?_
  refine r_new (o_al ze28) fun b10 => ?_
  refine r_u0 (o_stn ag28 rfl rfl rfl rfl rfl rfl rfl) ?_
  refine r_u (o_as rfl) ?_
  refine r_nil ?_
  refine x_seq ?_
  refine c_seq ?_
  refine c_reg ?_
  refine r_u (o_mv rfl) ?_
  refine r_u (o_bld [vS r2, vI 0] rfl (fun _ => by kernel_rfl)) ?_
  obtain ⟨r11, hr11, hm12⟩ := bs hm9
  refine r_u (o_callq ca38 rfl (hawthornref03_At_Flag.ok (⟨r2, 0⟩ : hawthornref03_At) r11 hr11)) ?_
  refine r_u (o_mv rfl) ?_
  refine r_u (o_ext rfl rfl) ?_
  refine r_u (o_ext rfl rfl) ?_
  refine r_new (o_al ze28) fun b13 => ?_
  refine r_u0 (o_stn ag28 rfl rfl rfl rfl rfl rfl rfl) ?_
  refine r_u (o_as rfl) ?_
  refine r_nil ?_
  refine x_seq ?_
  refine c_seq ?_
  refine c_reg ?_
  refine r_u (o_mv rfl) ?_
  obtain ⟨r14, hr14, hm15⟩ := bs hm12
  refine r_u (o_callq ca28 rfl (wire_Text.ok r0 r14 hr14)) ?_
  refine r_u (o_mv rfl) ?_
  refine r_u (o_lenS Try.underlying9 rfl) ?_
  obtain ⟨r16, hr16, hm17⟩ := bs hm15
  refine r_u (o_callq ca41 rfl (hawthornlaw03_text.ok r14 (r0.length : Int) r16 hr16)) ?_
  refine r_u (o_mv rfl) ?_
  refine r_u (o_ext rfl rfl) ?_
  refine r_u (o_ext rfl rfl) ?_
  refine r_u (o_as rfl) ?_
  refine r_u (o_as rfl) ?_
  refine r_nil ?_
  refine x_seq ?_
  refine c_seq ?_
  obtain ⟨r18, hr18, hm19⟩ := bs hm17
  refine cd_by r18 (fun h20 => ?_) fun h20 => ?_
  · have hm21 := ift hm19 h20
    refine c_reg ?_
    refine r_u (o_callq ca18 rfl (hawthornlaw03_awake.ok r18 hr18)) ?_
    refine r_u (o_mv rfl) ?_
    refine r_s (s_y rfl rfl h20 (o_mv rfl)) ?_
    refine r_s (s_y rfl rfl h20 (o_callq ca28 rfl (wire_Text.ok r0 r14 hr14))) ?_
    refine r_s (s_y rfl rfl h20 (o_mv rfl)) ?_
    obtain ⟨r22, hr22, hm23⟩ := bs hm21
    refine r_s (s_y rfl rfl h20 (o_callq ca43 rfl (hawthornref03_Text.ok r0 r22 hr22))) ?_
    refine r_s (s_y rfl rfl h20 (o_bin rfl rfl (bS_eq r14 r22))) ?_
    refine r_u (o_pt rfl h20 rfl) ?_
    refine r_u (o_mv rfl) ?_
    refine r_s (s_gt rfl rfl fun g => o_callq ca44 (evs1 rfl evs0) (wire_Flag.ok true _ rfl)) ?_
    refine r_s (s_gt rfl rfl fun g => o_bin (evg rfl g) rfl (bS_eq (wire_Flag true) [1])) ?_
    refine r_u (o_and rfl rfl) ?_
    refine r_u (o_mv rfl) ?_
    refine r_s (s_gt rfl rfl fun g => o_callq ca44 (evs1 rfl evs0) (wire_Flag.ok false _ rfl)) ?_
    refine r_s (s_gt rfl rfl fun g => o_bin (evg rfl g) rfl (bS_eq (wire_Flag false) [0])) ?_
    refine r_u (o_and rfl rfl) ?_
    refine r_u (o_mv rfl) ?_
    refine r_s (s_gt rfl rfl fun g => o_mv rfl) ?_
    refine r_s (s_gt rfl rfl fun g => o_ldn 1 (hawthornref03_At.c r8.1) ag28 rfl rfl rfl rfl) ?_
    refine r_s (s_gt rfl rfl fun g => o_callq ca20 (evs1 (evg rfl g) evs0) (hawthornref03_At_End.ok r8.1 _ rfl)) ?_
    refine r_s (s_gt rfl rfl fun g => o_bin (evg rfl g) (evg rfl g) (bI_eq r4.2 (hawthornref03_At_End r8.1))) ?_
    refine r_u (o_and rfl rfl) ?_
    refine r_u (o_mv rfl) ?_
    refine r_s (s_gt rfl rfl fun g => o_fa fa28_1 rfl) ?_
    refine r_s (s_gt rfl rfl fun g => o_ld 1 sc3 (evg rfl g) rfl rfl) ?_
    refine r_s (s_gt rfl rfl fun g => o_bin (evg rfl g) rfl (bI_ne r8.1.Err 0)) ?_
    refine r_s (s_gt rfl rfl fun g => o_mv (evg rfl g)) ?_
    refine r_s (s_ggf rfl rfl fun g => o_mv rfl) ?_
    refine r_s (s_ggf rfl rfl fun g => o_mv rfl) ?_
    refine r_s (s_ggf rfl rfl fun g => o_bin (evg rfl g) (evg rfl g) (bS_eq r4.1 r8.2)) ?_
    refine r_s (s_gt rfl rfl fun g => o_or (evg rfl g) (evg2 rfl g)) ?_
    refine r_u (o_and rfl rfl) ?_
    refine r_u (o_mv rfl) ?_
    refine r_s (s_gt rfl rfl fun g => o_mv rfl) ?_
    refine r_s (s_gt rfl rfl fun g => o_ldn 0 (hawthornref03_At.c r11.1) ag28 rfl rfl rfl rfl) ?_
    refine r_s (s_gt rfl rfl fun g => o_callq ca20 (evs1 (evg rfl g) evs0) (hawthornref03_At_End.ok r11.1 _ rfl)) ?_
    refine r_s (s_gt rfl rfl fun g => o_bin (evg rfl g) (evg rfl g) (bI_eq r6.2 (hawthornref03_At_End r11.1))) ?_
    refine r_u (o_and rfl rfl) ?_
    refine r_u (o_mv rfl) ?_
    refine r_s (s_gt rfl rfl fun g => o_fa fa28_1 rfl) ?_
    refine r_s (s_gt rfl rfl fun g => o_ld 0 sc3 (evg rfl g) rfl rfl) ?_
    refine r_s (s_gt rfl rfl fun g => o_bin (evg rfl g) rfl (bI_ne r11.1.Err 0)) ?_
    refine r_s (s_gt rfl rfl fun g => o_mv (evg rfl g)) ?_
    refine r_s (s_ggf rfl rfl fun g => o_mv rfl) ?_
    refine r_s (s_ggf rfl rfl fun g => o_mv rfl) ?_
    refine r_s (s_ggf rfl rfl fun g => o_bin (evg rfl g) (evg rfl g) (bB_eq Try.underlying4 r6.1 r11.2)) ?_
    refine r_s (s_gt rfl rfl fun g => o_or (evg rfl g) (evg2 rfl g)) ?_
    refine r_u (o_and rfl rfl) ?_
    refine r_u (o_mv rfl) ?_
    refine r_s (s_gt rfl rfl fun g => o_mv rfl) ?_
    refine r_s (s_gt rfl rfl fun g => o_bin (evg rfl g) rfl (bI_eq r16.2 0)) ?_
    refine r_u (o_and rfl rfl) ?_
    refine r_u (o_mv rfl) ?_
    refine r_s (s_gt rfl rfl fun g => o_mv rfl) ?_
    refine r_s (s_gt rfl rfl fun g => o_mv rfl) ?_
    refine r_s (s_gt rfl rfl fun g => o_bin (evg rfl g) (evg rfl g) (bS_eq r16.1 r0)) ?_
    refine r_u (o_and rfl rfl) ?_
    refine r_u (o_as rfl) ?_
    refine r_nil ?_
    refine x_seq ?_
    refine c_ret ?_
    obtain rfl := Option.some.inj hm23
    refine ex_st (fun _ h => st_pk 2 [] (by decide) h) ?_
    exact x_r1 rfl (rv_t rfl) (Le.refl _) ⟨_, rfl, rfl, rfl, rfl⟩
  · have hm21 := iff_ hm19 h20
    refine c_reg ?_
    refine r_u (o_callq ca18 rfl (hawthornlaw03_awake.ok r18 hr18)) ?_
    refine r_u (o_mv rfl) ?_
    refine r_s (s_n rfl rfl h20) ?_
    refine r_s (s_n rfl rfl h20) ?_
    refine r_s (s_n rfl rfl h20) ?_
    refine r_s (s_n rfl rfl h20) ?_
    refine r_s (s_n rfl rfl h20) ?_
    refine r_u (o_pf rfl h20 rfl) ?_
    refine r_u (o_mv rfl) ?_
    refine r_s (s_n rfl rfl rfl) ?_
    refine r_s (s_n rfl rfl rfl) ?_
    refine r_u (o_pf rfl rfl rfl) ?_
    refine r_u (o_mv rfl) ?_
    refine r_s (s_n rfl rfl rfl) ?_
    refine r_s (s_n rfl rfl rfl) ?_
    refine r_u (o_pf rfl rfl rfl) ?_
    refine r_u (o_mv rfl) ?_
    refine r_s (s_n rfl rfl rfl) ?_
    refine r_s (s_n rfl rfl rfl) ?_
    refine r_s (s_n rfl rfl rfl) ?_
    refine r_s (s_n rfl rfl rfl) ?_
    refine r_u (o_pf rfl rfl rfl) ?_
    refine r_u (o_mv rfl) ?_
    refine r_s (s_n rfl rfl rfl) ?_
    refine r_s (s_n rfl rfl rfl) ?_
    refine r_s (s_n rfl rfl rfl) ?_
    refine r_s (s_n rfl rfl rfl) ?_
    refine r_s (s_nu rfl rfl) ?_
    refine r_s (s_nu rfl rfl) ?_
    refine r_s (s_nu rfl rfl) ?_
    refine r_s (s_n rfl rfl rfl) ?_
    refine r_u (o_pf rfl rfl rfl) ?_
    refine r_u (o_mv rfl) ?_
    refine r_s (s_n rfl rfl rfl) ?_
    refine r_s (s_n rfl rfl rfl) ?_
    refine r_s (s_n rfl rfl rfl) ?_
    refine r_s (s_n rfl rfl rfl) ?_
    refine r_u (o_pf rfl rfl rfl) ?_
    refine r_u (o_mv rfl) ?_
    refine r_s (s_n rfl rfl rfl) ?_
    refine r_s (s_n rfl rfl rfl) ?_
    refine r_s (s_n rfl rfl rfl) ?_
    refine r_s (s_n rfl rfl rfl) ?_
    refine r_s (s_nu rfl rfl) ?_
    refine r_s (s_nu rfl rfl) ?_
    refine r_s (s_nu rfl rfl) ?_
    refine r_s (s_n rfl rfl rfl) ?_
    refine r_u (o_pf rfl rfl rfl) ?_
    refine r_u (o_mv rfl) ?_
    refine r_s (s_n rfl rfl rfl) ?_
    refine r_s (s_n rfl rfl rfl) ?_
    refine r_u (o_pf rfl rfl rfl) ?_
    refine r_u (o_mv rfl) ?_
    refine r_s (s_n rfl rfl rfl) ?_
    refine r_s (s_n rfl rfl rfl) ?_
    refine r_s (s_n rfl rfl rfl) ?_
    refine r_u (o_pf rfl rfl rfl) ?_
    refine r_u (o_as rfl) ?_
    refine r_nil ?_
    refine x_seq ?_
    refine c_ret ?_
    obtain rfl := Option.some.inj hm21
    refine ex_st (fun _ h => st_pk 2 [] (by decide) h) ?_
    exact x_r1 rfl (rv_t rfl) (Le.refl _) ⟨_, rfl, rfl, rfl, rfl⟩

def hawthornlaw03_WireNums (a0 : UInt64) (a1 : UInt64) (a2 : Str) : Option Bool :=
  (hawthornlaw03_few a2).bind fun r0 => (hawthornlaw03_num r0 a1).bind fun r2 => (hawthornref03_At_Num (⟨r0, 0⟩ : hawthornref03_At) a1).bind fun r4 => (wire_Num a0).bind fun r7 => (hawthornlaw03_num r7 a0).bind fun r9 => (hawthornlaw03_awake).bind fun r11 => if r11 then (hawthornref03_Num a0).bind fun r15 => some (((((r7 == r15) && (r2.2 == (hawthornref03_At_End r4.1))) && ((r4.1.Err != 0) || (r2.1 == r4.2))) && (r9.2 == 0)) && (r9.1 == a0)) else some false
theorem hawthornlaw03_WireNums.ok {G R F} (a0 : UInt64) (a1 : UInt64) (a2 : Str) (r : Bool) (hm : hawthornlaw03_WireNums a0 a1 a2 = some r) : CO Try.prog 3 [vW a0, vW a1, vS a2] G R (F)
    (Ret fun u R' L' => u = vB r ∧ R' = R ∧ L' = F) := by
  unfold hawthornlaw03_WireNums at hm
  refine co_ofN (N := 68) Try.func3 rfl rfl ?_
  refine c_seq ?_
  refine c_reg ?_
  refine r_u (o_as rfl) ?_
  refine r_nil ?_
  refine x_seq ?_
  refine c_seq ?_
  refine c_reg ?_
  refine r_u (o_mv rfl) ?_
  obtain ⟨r0, hr0, hm1⟩ := bs hm
  refine r_u (o_callq ca15 rfl (hawthornlaw03_few.ok a2 r0 hr0)) ?_
  refine r_u (o_mv rfl) ?_
  obtain ⟨r2, hr2, hm3⟩ := bs hm1
  refine r_u (o_callq ca14 rfl (hawthornlaw03_num.ok r0 a1 r2 hr2)) ?_
  refine r_u (o_mv rfl) ?_
  refine r_u (o_ext rfl rfl) ?_
  refine r_u (o_ext rfl rfl) ?_
  refine r_u (o_as rfl) ?_
  refine r_u (o_as rfl) ?_
  refine r_nil ?_
  refine x_seq ?_
  refine c_seq ?_
  refine c_reg ?_
  refine r_u (o_mv rfl) ?_
  refine r_u (o_callq ca15 rfl (hawthornlaw03_few.ok a2 r0 hr0)) ?_
  refine r_u (o_bld [vS r0, vI 0] rfl (fun _ => by kernel_rfl)) ?_
  refine r_u (o_mv rfl) ?_
  obtain ⟨r4, hr4, hm5⟩ := bs hm3
  refine r_u (o_callq ca16 rfl (hawthornref03_At_Num.ok (⟨r0, 0⟩ : hawthornref03_At) a1 r4 hr4)) ?_
  refine r_u (o_mv rfl) ?_
  refine r_u (o_ext rfl rfl) ?_
  refine r_u (o_ext rfl rfl) ?_
  refine r_new (o_al ze28) fun b6 => ?_
  refine r_u0 (o_stn ag28 rfl rfl rfl rfl rfl rfl rfl) ?_
  refine r_u (o_as rfl) ?_
  refine r_nil ?_
  refine x_seq ?_
  refine c_seq ?_
  refine c_reg ?_
  refine r_u (o_mv rfl) ?_
  obtain ⟨r7, hr7, hm8⟩ := bs hm5
  refine r_u (o_callq ca17 rfl (wire_Num.ok a0 r7 hr7)) ?_
  refine r_u (o_mv rfl) ?_
  obtain ⟨r9, hr9, hm10⟩ := bs hm8
  refine r_u (o_callq ca14 rfl (hawthornlaw03_num.ok r7 a0 r9 hr9)) ?_
  refine r_u (o_mv rfl) ?_
  refine r_u (o_ext rfl rfl) ?_
  refine r_u (o_ext rfl rfl) ?_
  refine r_u (o_as rfl) ?_
  refine r_u (o_as rfl) ?_
  refine r_nil ?_
  refine x_seq ?_
  refine c_seq ?_
  obtain ⟨r11, hr11, hm12⟩ := bs hm10
  refine cd_by r11 (fun h13 => ?_) fun h13 => ?_
  · have hm14 := ift hm12 h13
    refine c_reg ?_
    refine r_u (o_callq ca18 rfl (hawthornlaw03_awake.ok r11 hr11)) ?_
    refine r_u (o_mv rfl) ?_
    refine r_s (s_y rfl rfl h13 (o_mv rfl)) ?_
    refine r_s (s_y rfl rfl h13 (o_callq ca17 rfl (wire_Num.ok a0 r7 hr7))) ?_
    refine r_s (s_y rfl rfl h13 (o_mv rfl)) ?_
    obtain ⟨r15, hr15, hm16⟩ := bs hm14
    refine r_s (s_y rfl rfl h13 (o_callq ca19 rfl (hawthornref03_Num.ok a0 r15 hr15))) ?_
    refine r_s (s_y rfl rfl h13 (o_bin rfl rfl (bS_eq r7 r15))) ?_
    refine r_u (o_pt rfl h13 rfl) ?_
    refine r_u (o_mv rfl) ?_
    refine r_s (s_gt rfl rfl fun g => o_mv rfl) ?_
    refine r_s (s_gt rfl rfl fun g => o_ldn 0 (hawthornref03_At.c r4.1) ag28 rfl rfl rfl rfl) ?_
    refine r_s (s_gt rfl rfl fun g => o_callq ca20 (evs1 (evg rfl g) evs0) (hawthornref03_At_End.ok r4.1 _ rfl)) ?_
    refine r_s (s_gt rfl rfl fun g => o_bin (evg rfl g) (evg rfl g) (bI_eq r2.2 (hawthornref03_At_End r4.1))) ?_
    refine r_u (o_and rfl rfl) ?_
    refine r_u (o_mv rfl) ?_
    refine r_s (s_gt rfl rfl fun g => o_fa fa28_1 rfl) ?_
    refine r_s (s_gt rfl rfl fun g => o_ld 0 sc3 (evg rfl g) rfl rfl) ?_
    refine r_s (s_gt rfl rfl fun g => o_bin (evg rfl g) rfl (bI_ne r4.1.Err 0)) ?_
    refine r_s (s_gt rfl rfl fun g => o_mv (evg rfl g)) ?_
    refine r_s (s_ggf rfl rfl fun g => o_mv rfl) ?_
    refine r_s (s_ggf rfl rfl fun g => o_mv rfl) ?_
    refine r_s (s_ggf rfl rfl fun g => o_bin (evg rfl g) (evg rfl g) (bW_eq r2.1 r4.2)) ?_
    refine r_s (s_gt rfl rfl fun g => o_or (evg rfl g) (evg2 rfl g)) ?_
    refine r_u (o_and rfl rfl) ?_
    refine r_u (o_mv rfl) ?_
    refine r_s (s_gt rfl rfl fun g => o_mv rfl) ?_
    refine r_s (s_gt rfl rfl fun g => o_bin (evg rfl g) rfl (bI_eq r9.2 0)) ?_
    refine r_u (o_and rfl rfl) ?_
    refine r_u (o_mv rfl) ?_
    refine r_s (s_gt rfl rfl fun g => o_mv rfl) ?_
    refine r_s (s_gt rfl rfl fun g => o_mv rfl) ?_
    refine r_s (s_gt rfl rfl fun g => o_bin (evg rfl g) (evg rfl g) (bW_eq r9.1 a0)) ?_
    refine r_u (o_and rfl rfl) ?_
    refine r_u (o_as rfl) ?_
    refine r_nil ?_
    refine x_seq ?_
    refine c_ret ?_
    obtain rfl := Option.some.inj hm16
    refine ex_st (fun _ h => st_pk 1 [] (by decide) h) ?_
    exact x_r1 rfl (rv_t rfl) (Le.refl _) ⟨_, rfl, rfl, rfl, rfl⟩
  · have hm14 := iff_ hm12 h13
    refine c_reg ?_
    refine r_u (o_callq ca18 rfl (hawthornlaw03_awake.ok r11 hr11)) ?_
    refine r_u (o_mv rfl) ?_
    refine r_s (s_n rfl rfl h13) ?_
    refine r_s (s_n rfl rfl h13) ?_
    refine r_s (s_n rfl rfl h13) ?_
    refine r_s (s_n rfl rfl h13) ?_
    refine r_s (s_n rfl rfl h13) ?_
    refine r_u (o_pf rfl h13 rfl) ?_
    refine r_u (o_mv rfl) ?_
    refine r_s (s_n rfl rfl rfl) ?_
    refine r_s (s_n rfl rfl rfl) ?_
    refine r_s (s_n rfl rfl rfl) ?_
    refine r_s (s_n rfl rfl rfl) ?_
    refine r_u (o_pf rfl rfl rfl) ?_
    refine r_u (o_mv rfl) ?_
    refine r_s (s_n rfl rfl rfl) ?_
    refine r_s (s_n rfl rfl rfl) ?_
    refine r_s (s_n rfl rfl rfl) ?_
    refine r_s (s_n rfl rfl rfl) ?_
    refine r_s (s_nu rfl rfl) ?_
    refine r_s (s_nu rfl rfl) ?_
    refine r_s (s_nu rfl rfl) ?_
    refine r_s (s_n rfl rfl rfl) ?_
    refine r_u (o_pf rfl rfl rfl) ?_
    refine r_u (o_mv rfl) ?_
    refine r_s (s_n rfl rfl rfl) ?_
    refine r_s (s_n rfl rfl rfl) ?_
    refine r_u (o_pf rfl rfl rfl) ?_
    refine r_u (o_mv rfl) ?_
    refine r_s (s_n rfl rfl rfl) ?_
    refine r_s (s_n rfl rfl rfl) ?_
    refine r_s (s_n rfl rfl rfl) ?_
    refine r_u (o_pf rfl rfl rfl) ?_
    refine r_u (o_as rfl) ?_
    refine r_nil ?_
    refine x_seq ?_
    refine c_ret ?_
    obtain rfl := Option.some.inj hm14
    refine ex_st (fun _ h => st_pk 1 [] (by decide) h) ?_
    exact x_r1 rfl (rv_t rfl) (Le.refl _) ⟨_, rfl, rfl, rfl, rfl⟩

def hawthornref03_At_Must (a0 : hawthornref03_At) (a1 : Bool) : hawthornref03_At :=
  if ((a0.Err == 0) && !a1) then (⟨a0.S, 6⟩ : hawthornref03_At) else a0
theorem hawthornref03_At_Must.ok {G R F} (a0 : hawthornref03_At) (a1 : Bool) (r : hawthornref03_At) (hm : hawthornref03_At_Must a0 a1 = r) : CO Try.prog 40 [.agg (hawthornref03_At.c a0).toArray, vB a1] G R (F)
    (Ret fun u R' L' => u = .agg (hawthornref03_At.c r).toArray ∧ R' = R ∧ L' = F) := by
  unfold hawthornref03_At_Must at hm
  refine co_ofN (N := 14) Try.func40 rfl rfl ?_
  refine c_seq ?_
  refine c_reg ?_
  refine r_new (o_bx (hawthornref03_At.c a0) rfl rfl) fun b0 => ?_
  refine r_new (o_al ze28) fun b1 => ?_
  refine r_nil ?_
  refine x_seq ?_
  refine c_seq ?_
  refine c_seq ?_
  refine c_reg ?_
  refine r_u (o_fa fa28_1 rfl) ?_
  refine r_u (o_ld 1 sc3 rfl rfl rfl) ?_
  refine r_u (o_bin rfl rfl (bI_eq a0.Err 0)) ?_
  refine r_u (o_mv rfl) ?_
  refine r_s (s_gt rfl rfl fun g => o_mv rfl) ?_
  refine r_s (s_gt rfl rfl fun g => o_not (evg rfl g)) ?_
  refine r_u (o_and rfl rfl) ?_
  refine r_nil ?_
  refine x_seq ?_
  refine c_if (b := ((a0.Err == 0) && !a1)) rfl (fun h2 => ?_) fun h2 => ?_
  · have hm3 := ift hm h2
    refine c_reg ?_
    refine r_u (o_fa fa28_1 rfl) ?_
    refine rl_st (fun _ h => st_pk 2 [1, 0] (by decide) h) ?_
    refine r_u0 (o_st sc3 rfl rfl rfl rfl rfl rfl) ?_
    refine r_nil ?_
    refine x_seq ?_
    refine c_seq ?_
    refine c_reg ?_
    refine r_u (o_ldn 0 [vS a0.S, vI 6] ag28 rfl rfl rfl rfl) ?_
    refine rl_st (fun _ h => st_pk 2 [1, 0] (by decide) h) ?_
    refine r_u0 (o_stn ag28 rfl rfl rfl rfl rfl rfl rfl) ?_
    refine r_nil ?_
    refine x_seq ?_
    refine c_ret ?_
    subst hm3
    exact x_d1 rfl (rv_n 0 [vS a0.S, vI 6] ag28 rfl rfl rfl rfl) (fun _ h => st_pk 2 [] (by decide) h) (Le.refl _) ⟨_, rfl, rfl, rfl, rfl⟩
  · have hm3 := iff_ hm h2
    refine c_skip ?_
    refine x_seq ?_
    refine c_seq ?_
    refine c_reg ?_
    refine r_u (o_ldn 1 (hawthornref03_At.c a0) ag28 rfl rfl rfl rfl) ?_
    refine r_u0 (o_stn ag28 rfl rfl rfl rfl rfl rfl rfl) ?_
    refine r_nil ?_
    refine x_seq ?_
    refine c_ret ?_
    subst hm3
    exact x_d1 rfl (rv_n 0 (hawthornref03_At.c a0) ag28 rfl rfl rfl rfl) (fun _ h => st_pk 2 [] (by decide) h) (Le.refl _) ⟨_, rfl, rfl, rfl, rfl⟩

def hawthornref03_Check_l1 (a0 : Str) (i_5 : Int) : Nat → UInt32 → Int → Option (UInt32)
  | 0, _, _ => none
  | k21 + 1, r_19, k_20 => if decide (k_20 < 8) then (gi a0 i_5).bind fun c26 => Option.bind (if (((r_19 &&& 1) ^^^ (((shYr c26 ((toW k_20).toNat : Int)).toUInt32) &&& 1)) == 1) then some ((r_19 / 2) ^^^ 3945912366) else some (r_19 / 2)) fun p28 => hawthornref03_Check_l1 a0 i_5 k21 p28 (i64 (k_20 + 1)) else some r_19
def hawthornref03_Check_l0 (a0 : Str) : Nat → UInt32 → Int → Option (UInt32)
  | 0, _, _ => none
  | k6 + 1, r_4, i_5 => if decide (i_5 < (a0.length : Int)) then Option.bind (Option.bind (hawthornref03_Check_l1 a0 i_5 9 r_4 0) fun p15 => some p15) fun p11 => hawthornref03_Check_l0 a0 k6 p11 (i64 (i_5 + 1)) else some r_4
def hawthornref03_Check (a0 : Str) : Option UInt32 :=
  Option.bind (hawthornref03_Check_l0 a0 (((a0.length : Int) - 0).toNat + 1) 4294967295 0) fun p0 => some (4294967295 - p0)
theorem hawthornref03_Check.ok {G R F} (a0 : Str) (r : UInt32) (hm : hawthornref03_Check a0 = some r) : CO Try.prog 22 [vS a0] G R (F)
    (Ret fun u R' L' => u = vD r ∧ R' = R ∧ L' = F) := by
  unfold hawthornref03_Check at hm
  refine co_ofN (N := 37) Try.func22 rfl rfl ?_
  refine c_seq ?_
  refine c_reg ?_
  refine r_u (o_as rfl) ?_
  refine r_nil ?_
  refine x_seq ?_
  refine c_seq ?_
  refine c_reg ?_
  refine r_u (o_as rfl) ?_
  refine r_nil ?_
  refine x_seq ?_
  refine c_seq ?_
  refine c_seq ?_
  refine c_reg ?_
  refine r_u (o_as rfl) ?_
  refine r_nil ?_
  refine x_seq ?_
  obtain ⟨p0, hp1, hm2⟩ := bs hm
  refine cd_join (E' := [(3, vD p0)]) (L' := F) ?_ fun K3 => ?_
  · refine x_seq ?_
    refine c_seq ?_
    refine c_reg ?_
    refine r_u (o_mv rfl) ?_
    refine r_u (o_bin rfl rfl (bD_sub 4294967295 p0)) ?_
    refine r_u (o_as rfl) ?_
    refine r_nil ?_
    refine x_seq ?_
    refine c_ret ?_
    obtain rfl := Option.some.inj hm2
    exact x_r1 rfl (rv_t rfl) (Le.refl _) ⟨_, rfl, rfl, rfl, rfl⟩
  · refine c_blk ?_
    refine cd_loop (M := fun k6 (s : UInt32 × Int) => hawthornref03_Check_l0 a0 k6 s.1 s.2 = some p0) (Ef := fun (s : UInt32 × Int) => [(0, vS a0), (3, vD s.1), (4, vI s.2)]) (Lf := fun (s : UInt32 × Int) => F) (((a0.length : Int) - 0).toNat + 1) (4294967295, 0) hp1 ⟨rfl, rfl, rfl, trivial⟩ (fun _ h => h) (fun _ h => by cases h) fun k6 s hM8 => ?_
    obtain ⟨r_4, i_5⟩ := s
    have hm7 : hawthornref03_Check_l0 a0 (k6 + 1) r_4 i_5 = some p0 := hM8
    rw [hawthornref03_Check_l0] at hm7
    refine c_seq ?_
    refine c_seq ?_
    refine c_reg ?_
    refine r_u (o_mv rfl) ?_
    refine r_u (o_mv rfl) ?_
    refine r_u (o_lenS Try.underlying9 rfl) ?_
    refine r_u (o_bin rfl rfl (bI_lt i_5 (a0.length : Int))) ?_
    refine r_nil ?_
    refine x_seq ?_
    refine c_if (b := decide (i_5 < (a0.length : Int))) rfl (fun h9 => ?_) fun h9 => ?_
    · have hm10 := ift hm7 h9
      refine c_skip ?_
      refine x_seq ?_
      refine c_seq ?_
      obtain ⟨p11, hp12, hm13⟩ := bs hm10
      refine cd_join (E' := [(0, vS a0), (4, vI i_5), (3, vD p11)]) (L' := F) ?_ fun K14 => ?_
      · refine x_seq ?_
        refine c_reg ?_
        refine r_u (o_mv rfl) ?_
        refine r_u (o_bin rfl rfl (bI_add i_5 1)) ?_
        refine r_u (o_as rfl) ?_
        refine r_nil ?_
        exact x_lp (p11, i64 (i_5 + 1)) hm13 ⟨rfl, rfl, rfl, trivial⟩ (fun _ h => st_pk 0 [] (by decide) h)
      · refine c_blk ?_
        refine c_seq ?_
        refine c_reg ?_
        refine r_u (o_as rfl) ?_
        refine r_nil ?_
        refine x_seq ?_
        obtain ⟨p15, hp16, hm17⟩ := bs hp12
        refine cd_join (E' := [(0, vS a0), (4, vI i_5), (3, vD p15)]) (L' := F) ?_ fun K18 => ?_
        · refine x_blk ?_
          obtain rfl := Option.some.inj hm17
          exact x_sub K14 ⟨rfl, rfl, rfl, trivial⟩ (fun _ h => st_pk 0 [] (by decide) h)
        · refine c_blk ?_
          refine cd_loop (M := fun k21 (s : UInt32 × Int) => hawthornref03_Check_l1 a0 i_5 k21 s.1 s.2 = some p15) (Ef := fun (s : UInt32 × Int) => [(0, vS a0), (4, vI i_5), (3, vD s.1), (5, vI s.2)]) (Lf := fun (s : UInt32 × Int) => F) 9 (r_4, 0) hp16 ⟨rfl, rfl, rfl, rfl, trivial⟩ (fun _ h => h) (fun _ h => by cases h) fun k21 s hM23 => ?_
          obtain ⟨r_19, k_20⟩ := s
          have hm22 : hawthornref03_Check_l1 a0 i_5 (k21 + 1) r_19 k_20 = some p15 := hM23
          rw [hawthornref03_Check_l1] at hm22
          refine c_seq ?_
          refine c_seq ?_
          refine c_reg ?_
          refine r_u (o_mv rfl) ?_
          refine r_u (o_bin rfl rfl (bI_lt k_20 8)) ?_
          refine r_nil ?_
          refine x_seq ?_
          refine c_if (b := decide (k_20 < 8)) rfl (fun h24 => ?_) fun h24 => ?_
          · have hm25 := ift hm22 h24
            refine c_skip ?_
            refine x_seq ?_
            refine c_seq ?_
            refine c_blk ?_
            refine c_seq ?_
            refine c_reg ?_
            refine r_u (o_mv rfl) ?_
            refine r_u (o_mv rfl) ?_
            obtain ⟨c26, hc26, hm27⟩ := bs hm25
            refine r_u (o_ixS Try.underlying9 rfl rfl hc26) ?_
            refine r_u (o_mv rfl) ?_
            refine r_u (o_cv rfl (cIW Try.underlying3 Try.underlying96 k_20)) ?_
            refine r_u (o_bin rfl rfl (bYW_shr c26 (toW k_20))) ?_
            refine r_u (o_cv rfl (cYD Try.underlying5 Try.underlying35 (shYr c26 ((toW k_20).toNat : Int)))) ?_
            refine r_u (o_bin rfl rfl (bD_and ((shYr c26 ((toW k_20).toNat : Int)).toUInt32) 1)) ?_
            refine r_u (o_as rfl) ?_
            refine r_nil ?_
            refine x_seq ?_
            refine c_seq ?_
            refine c_reg ?_
            refine r_u (o_mv rfl) ?_
            refine r_u (o_bin rfl rfl (bD_and r_19 1)) ?_
            refine r_u (o_mv rfl) ?_
            refine r_u (o_bin rfl rfl (bD_xor (r_19 &&& 1) (((shYr c26 ((toW k_20).toNat : Int)).toUInt32) &&& 1))) ?_
            refine r_u (o_bin rfl rfl (bD_eq ((r_19 &&& 1) ^^^ (((shYr c26 ((toW k_20).toNat : Int)).toUInt32) &&& 1)) 1)) ?_
            refine r_nil ?_
            refine x_seq ?_
            obtain ⟨p28, hp29, hm30⟩ := bs hm27
            refine cd_join (E' := [(0, vS a0), (4, vI i_5), (5, vI k_20), (3, vD p28)]) (L' := F) ?_ fun K31 => ?_
            · refine x_blk ?_
              refine x_seq ?_
              refine c_reg ?_
              refine r_u (o_mv rfl) ?_
              refine r_u (o_bin rfl rfl (bI_add k_20 1)) ?_
              refine r_u (o_as rfl) ?_
              refine r_nil ?_
              exact x_lp (p28, i64 (k_20 + 1)) hm30 ⟨rfl, rfl, rfl, rfl, trivial⟩ (fun _ h => st_pk 0 [] (by decide) h)
            · refine c_if (b := (((r_19 &&& 1) ^^^ (((shYr c26 ((toW k_20).toNat : Int)).toUInt32) &&& 1)) == 1)) rfl (fun h32 => ?_) fun h32 => ?_
              · have hm33 := ift hp29 h32
                refine c_reg ?_
                refine r_u (o_mv rfl) ?_
                refine r_u (o_bin rfl rfl (bD_quo r_19 2 (by decide))) ?_
                refine r_u (o_bin rfl rfl (bD_xor (r_19 / 2) 3945912366)) ?_
                refine r_u (o_as rfl) ?_
                refine r_nil ?_
                obtain rfl := Option.some.inj hm33
                exact x_sub K31 ⟨rfl, rfl, rfl, rfl, trivial⟩ (fun _ h => st_pk 0 [] (by decide) h)
              · have hm33 := iff_ hp29 h32
                refine c_reg ?_
                refine r_u (o_mv rfl) ?_
                refine r_u (o_bin rfl rfl (bD_quo r_19 2 (by decide))) ?_
                refine r_u (o_as rfl) ?_
                refine r_nil ?_
                obtain rfl := Option.some.inj hm33
                exact x_sub K31 ⟨rfl, rfl, rfl, rfl, trivial⟩ (fun _ h => st_pk 0 [] (by decide) h)
          · have hm25 := iff_ hm22 h24
            refine c_exit (x_exit (ks' := _) rfl ?_)
            obtain rfl := Option.some.inj hm25
            exact x_sub K18 ⟨rfl, rfl, rfl, trivial⟩ (fun _ h => st_pk 0 [] (by decide) h)
    · have hm10 := iff_ hm7 h9
      refine c_exit (x_exit (ks' := _) rfl ?_)
      obtain rfl := Option.some.inj hm10
      exact x_sub K3 ⟨rfl, trivial⟩ (fun _ h => st_pk 0 [] (by decide) h)

def hawthornref03_Four (a0 : UInt32) : Str :=
  [(a0 % 256).toUInt8, ((a0 / 256) % 256).toUInt8, ((a0 / 65536) % 256).toUInt8, (a0 / 16777216).toUInt8]
theorem hawthornref03_Four.ok {G R F} (a0 : UInt32) (r : Str) (hm : hawthornref03_Four a0 = r) : CO Try.prog 73 [vD a0] G R (F)
    (Ret fun u R' L' => u = vS r ∧ R' = R ∧ L' = F) := by
  unfold hawthornref03_Four at hm
  refine co_ofN (N := 19) Try.func73 rfl rfl ?_
  refine c_seq ?_
  refine c_reg ?_
  refine r_u (o_as rfl) ?_
  refine r_nil ?_
  refine x_seq ?_
  refine c_seq ?_
  refine c_reg ?_
  refine r_u (o_mv rfl) ?_
  refine r_u (o_bin rfl rfl (bD_rem a0 256 (by decide))) ?_
  refine r_u (o_cv rfl (cDY Try.underlying35 Try.underlying5 (a0 % 256))) ?_
  refine r_u (o_mv rfl) ?_
  refine r_u (o_bin rfl rfl (bD_quo a0 256 (by decide))) ?_
  refine r_u (o_bin rfl rfl (bD_rem (a0 / 256) 256 (by decide))) ?_
  refine r_u (o_cv rfl (cDY Try.underlying35 Try.underlying5 ((a0 / 256) % 256))) ?_
  refine r_u (o_mv rfl) ?_
  refine r_u (o_bin rfl rfl (bD_quo a0 65536 (by decide))) ?_
  refine r_u (o_bin rfl rfl (bD_rem (a0 / 65536) 256 (by decide))) ?_
  refine r_u (o_cv rfl (cDY Try.underlying35 Try.underlying5 ((a0 / 65536) % 256))) ?_
  refine r_u (o_mv rfl) ?_
  refine r_u (o_bin rfl rfl (bD_quo a0 16777216 (by decide))) ?_
  refine r_u (o_cv rfl (cDY Try.underlying35 Try.underlying5 (a0 / 16777216))) ?_
  refine r_sw (s_w (o_bsl (en := eY) (sz := 1) (e := 5) (cs := [vY ((a0 % 256).toUInt8), vY (((a0 / 256) % 256).toUInt8), vY (((a0 / 65536) % 256).toUInt8), vY ((a0 / 16777216).toUInt8)]) (r := [(a0 % 256).toUInt8, ((a0 / 256) % 256).toUInt8, ((a0 / 65536) % 256).toUInt8, (a0 / 16777216).toUInt8]) rfl (fun _ => by kernel_rfl) rfl (by decide) rfl (fun _ => rfl))) ?_
  rintro v0 R _ _ ⟨rfl, rfl⟩
  refine r_u (o_bs 0 Try.underlying40 Try.underlying5 Try.underlying9 rfl rfl) ?_
  refine r_u (o_as rfl) ?_
  refine r_nil ?_
  refine x_seq ?_
  refine c_ret ?_
  subst hm
  refine ex_st (fun _ h => st_pk 1 [] (by decide) h) ?_
  exact x_r1 rfl (rv_t rfl) (Le.refl _) ⟨_, rfl, rfl, rfl, rfl⟩

def hawthornref03_Open (a0 : Str) : Option (Str × Int) :=
  (hawthornref03_At_Bytes (⟨a0, 0⟩ : hawthornref03_At) 1).bind fun r0 => (hawthornref03_At_Text (hawthornref03_At_Must r0.1 (r0.2 == [49])) 65536).bind fun r3 => (hawthornref03_At_Bytes r3.1 4).bind fun r5 => Option.bind (if (r5.1.Err == 0) then (sl a0 0 (i64 ((i64 ((a0.length : Int) - 4)) - (r5.1.S.length : Int)))).bind fun s15 => (hawthornref03_Check s15).bind fun r17 => some (hawthornref03_At_Must r5.1 (r5.2 == (hawthornref03_Four r17))) else some r5.1) fun p7 => if ((hawthornref03_At_End p7) != 0) then some ([], (hawthornref03_At_End p7)) else some (r3.2, 0)
theorem hawthornref03_Open.ok {G R F} (a0 : Str) (r : Str × Int) (hm : hawthornref03_Open a0 = some r) : CO Try.prog 26 [vS a0] G R (F)
    (Ret fun u R' L' => u = .tuple #[vS r.1, vI r.2] ∧ R' = R ∧ L' = F) := by
  unfold hawthornref03_Open at hm
  refine co_ofN (N := 53) Try.func26 rfl rfl ?_
  refine c_seq ?_
  refine c_reg ?_
  refine r_u (o_as rfl) ?_
  refine r_u (o_as rfl) ?_
  refine r_nil ?_
  refine x_seq ?_
  refine c_seq ?_
  refine c_reg ?_
  refine r_u (o_mv rfl) ?_
  refine r_u (o_bld [vS a0, vI 0] rfl (fun _ => by kernel_rfl)) ?_
  obtain ⟨r0, hr0, hm1⟩ := bs hm
  refine r_u (o_callq ca39 rfl (hawthornref03_At_Bytes.ok (⟨a0, 0⟩ : hawthornref03_At) 1 r0 hr0)) ?_
  refine r_u (o_mv rfl) ?_
  refine r_u (o_ext rfl rfl) ?_
  refine r_u (o_ext rfl rfl) ?_
  refine r_new (o_al ze28) fun b2 => ?_
  refine r_u0 (o_stn ag28 rfl rfl rfl rfl rfl rfl rfl) ?_
  refine r_u (o_as rfl) ?_
  refine r_nil ?_
  refine x_seq ?_
  refine c_seq ?_
  refine c_reg ?_
  refine r_u (o_ldn 0 (hawthornref03_At.c r0.1) ag28 rfl rfl rfl rfl) ?_
  refine r_u (o_mv rfl) ?_
  refine r_u (o_bin rfl rfl (bS_eq r0.2 [49])) ?_
  refine r_u (o_callq ca40 rfl (hawthornref03_At_Must.ok r0.1 (r0.2 == [49]) _ rfl)) ?_
  refine r_u0 (o_stn ag28 rfl rfl rfl rfl rfl rfl rfl) ?_
  refine r_nil ?_
  refine x_seq ?_
  refine c_seq ?_
  refine c_reg ?_
  refine r_u (o_ldn 0 (hawthornref03_At.c (hawthornref03_At_Must r0.1 (r0.2 == [49]))) ag28 rfl rfl rfl rfl) ?_
  obtain ⟨r3, hr3, hm4⟩ := bs hm1
  refine r_u (o_callq ca37 rfl (hawthornref03_At_Text.ok (hawthornref03_At_Must r0.1 (r0.2 == [49])) 65536 r3 hr3)) ?_
  refine r_u (o_mv rfl) ?_
  refine r_u (o_ext rfl rfl) ?_
  refine r_u (o_ext rfl rfl) ?_
  refine r_u0 (o_stn ag28 rfl rfl rfl rfl rfl rfl rfl) ?_
  refine r_u (o_as rfl) ?_
  refine r_nil ?_
  refine x_seq ?_
  refine c_seq ?_
  refine c_reg ?_
  refine r_u (o_ldn 0 (hawthornref03_At.c r3.1) ag28 rfl rfl rfl rfl) ?_
  obtain ⟨r5, hr5, hm6⟩ := bs hm4
  refine r_u (o_callq ca39 rfl (hawthornref03_At_Bytes.ok r3.1 4 r5 hr5)) ?_
  refine r_u (o_mv rfl) ?_
  refine r_u (o_ext rfl rfl) ?_
  refine r_u (o_ext rfl rfl) ?_
  refine r_u0 (o_stn ag28 rfl rfl rfl rfl rfl rfl rfl) ?_
  refine r_u (o_as rfl) ?_
  refine r_nil ?_
  refine x_seq ?_
  refine c_seq ?_
  refine c_seq ?_
  refine c_reg ?_
  refine r_u (o_fa fa28_1 rfl) ?_
  refine r_u (o_ld 0 sc3 rfl rfl rfl) ?_
  refine r_u (o_bin rfl rfl (bI_eq r5.1.Err 0)) ?_
  refine r_nil ?_
  refine x_seq ?_
  obtain ⟨p7, hp8, hm9⟩ := bs hm6
  refine cd_join (E' := [(4, pt b2 0), (6, vS r3.2)]) (L' := Bk b2 28 (hawthornref03_At.c p7) :: F) ?_ fun K10 => ?_
  · refine x_seq ?_
    refine c_seq ?_
    refine c_seq ?_
    refine c_reg ?_
    refine r_u (o_ldn 0 (hawthornref03_At.c p7) ag28 rfl rfl rfl rfl) ?_
    refine r_u (o_callq ca20 rfl (hawthornref03_At_End.ok p7 _ rfl)) ?_
    refine r_u (o_as rfl) ?_
    refine r_nil ?_
    refine x_seq ?_
    refine c_seq ?_
    refine c_reg ?_
    refine r_u (o_mv rfl) ?_
    refine r_u (o_bin rfl rfl (bI_ne (hawthornref03_At_End p7) 0)) ?_
    refine r_nil ?_
    refine x_seq ?_
    refine c_if (b := ((hawthornref03_At_End p7) != 0)) rfl (fun h11 => ?_) fun h11 => ?_
    · have hm12 := ift hm9 h11
      refine c_seq ?_
      refine c_reg ?_
      refine r_u (o_mv rfl) ?_
      refine r_u (o_as rfl) ?_
      refine r_u (o_as rfl) ?_
      refine r_nil ?_
      refine x_seq ?_
      refine c_ret ?_
      obtain rfl := Option.some.inj hm12
      refine ex_st (fun _ h => st_pk 1 [] (by decide) h) ?_
      exact x_r2 rfl (rv_t rfl) (rv_t rfl) (Le.refl _) ⟨_, rfl, rfl, rfl, rfl⟩
    · have hm12 := iff_ hm9 h11
      refine c_skip ?_
      refine x_seq ?_
      refine c_seq ?_
      refine c_reg ?_
      refine r_u (o_mv rfl) ?_
      refine r_u (o_as rfl) ?_
      refine r_u (o_as rfl) ?_
      refine r_nil ?_
      refine x_seq ?_
      refine c_ret ?_
      obtain rfl := Option.some.inj hm12
      refine ex_st (fun _ h => st_pk 1 [] (by decide) h) ?_
      exact x_r2 rfl (rv_t rfl) (rv_t rfl) (Le.refl _) ⟨_, rfl, rfl, rfl, rfl⟩
  · refine c_if (b := (r5.1.Err == 0)) rfl (fun h13 => ?_) fun h13 => ?_
    · have hm14 := ift hp8 h13
      obtain ⟨s15, hs15, hm16⟩ := bs hm14
      obtain ⟨r17, hr17, hm18⟩ := bs hm16
      refine c_any mixed (effs := [15]) (V := []) ?_
      refine stage_ext [(0, .agg (hawthornref03_At.c r5.1).toArray), (1, vS r5.2), (2, vS a0), (3, vS a0), (4, vI (a0.length : Int)), (5, vI (i64 ((a0.length : Int) - 4))), (6, pt b2 0), (7, vS r5.1.S), (8, vI (r5.1.S.length : Int)), (9, vI (i64 ((i64 ((a0.length : Int) - 4)) - (r5.1.S.length : Int)))), (10, vS s15), (11, vD r17), (12, vS (hawthornref03_Four r17)), (13, vB (r5.2 == (hawthornref03_Four r17))), (14, .agg (hawthornref03_At.c (hawthornref03_At_Must r5.1 (r5.2 == (hawthornref03_Four r17)))).toArray)] rfl ?_
      refine stage rfl rfl rfl rfl [0, 0, 0, 0, 8, 24, 0, 64, 192, 504, 1020, 2044, 4092, 8190, 16383, 32767] [0, 1, 2, 3, 4, 5, 6, 7, 8, 9, 10, 11, 12, 13, 14] [15] rfl rfl rfl (qc rfl rfl (s_u (o_ldn 0 (hawthornref03_At.c r5.1) ag28 rfl rfl rfl rfl)) (qc rfl rfl (s_u (o_mv rfl)) (qc rfl rfl (s_u (o_mv rfl)) (qc rfl rfl (s_u (o_mv rfl)) (qc rfl rfl (s_u (o_lenS Try.underlying9 rfl)) (qc rfl rfl (s_u (o_bin rfl rfl (bI_sub (a0.length : Int) 4))) (qc rfl rfl (s_u (o_fa fa28_0 rfl)) (qc rfl rfl (s_u (o_ld 0 sc9 rfl rfl rfl)) (qc rfl rfl (s_u (o_lenS Try.underlying9 rfl)) (qc rfl rfl (s_u (o_bin rfl rfl (bI_sub (i64 ((a0.length : Int) - 4)) (r5.1.S.length : Int)))) (qc rfl rfl (s_u (o_slS (i := 0) (j := i64 ((i64 ((a0.length : Int) - 4)) - (r5.1.S.length : Int))) Try.underlying9 rfl rfl rfl hs15)) (qc rfl rfl (s_u (o_callq ca22 rfl (hawthornref03_Check.ok s15 r17 hr17))) (qc rfl rfl (s_u (o_callq ca73 rfl (hawthornref03_Four.ok r17 _ rfl))) (qc rfl rfl (s_u (o_bin rfl rfl (bS_eq r5.2 (hawthornref03_Four r17)))) (qc rfl rfl (s_u (o_callq ca40 rfl (hawthornref03_At_Must.ok r5.1 (r5.2 == (hawthornref03_Four r17)) _ rfl))) qn))))))))))))))) ?_ (fun h => absurd h (by decide))
      refine ec (eo_u rfl (s_u (o_stn ag28 rfl rfl rfl rfl rfl rfl rfl)) (Le.refl _) ?_) en
      refine stage rfl rfl rfl rfl [0, 0, 0, 0, 8, 24, 0, 64, 192, 504, 1020, 2044, 4092, 8190, 16383, 32767] [] [] rfl rfl rfl qn en ?_
      intro _
      refine ex_sub (E' := [(4, pt b2 0), (6, vS r3.2)]) ⟨rfl, rfl, trivial⟩ ?_
      obtain rfl := Option.some.inj hm18
      exact x_sub K10 ⟨rfl, rfl, trivial⟩ (fun _ h => st_pk 1 [0] (by decide) h)
    · have hm14 := iff_ hp8 h13
      refine c_skip ?_
      obtain rfl := Option.some.inj hm14
      exact x_sub K10 ⟨rfl, rfl, trivial⟩ (fun _ h => st_pk 1 [0] (by decide) h)

def hawthornlaw03_WireOpens (a0 : Str) : Option Bool :=
  (hawthornlaw03_few a0).bind fun r0 => (wire_Open r0).bind fun r2 => (hawthornref03_Open r0).bind fun r4 => (hawthornlaw03_awake).bind fun r6 => some ((r6 && (r2.2 == r4.2)) && (r2.1 == r4.1))
theorem hawthornlaw03_WireOpens.ok {G R F} (a0 : Str) (r : Bool) (hm : hawthornlaw03_WireOpens a0 = some r) : CO Try.prog 6 [vS a0] G R (F)
    (Ret fun u R' L' => u = vB r ∧ R' = R ∧ L' = F) := by
  unfold hawthornlaw03_WireOpens at hm
  refine co_ofN (N := 30) Try.func6 rfl rfl ?_
  refine c_seq ?_
  refine c_reg ?_
  refine r_u (o_as rfl) ?_
  refine r_nil ?_
  refine x_seq ?_
  refine c_seq ?_
  refine c_reg ?_
  refine r_u (o_mv rfl) ?_
  obtain ⟨r0, hr0, hm1⟩ := bs hm
  refine r_u (o_callq ca15 rfl (hawthornlaw03_few.ok a0 r0 hr0)) ?_
  obtain ⟨r2, hr2, hm3⟩ := bs hm1
  refine r_u (o_callq ca24 rfl (wire_Open.ok r0 r2 hr2)) ?_
  refine r_u (o_mv rfl) ?_
  refine r_u (o_ext rfl rfl) ?_
  refine r_u (o_ext rfl rfl) ?_
  refine r_u (o_as rfl) ?_
  refine r_u (o_as rfl) ?_
  refine r_nil ?_
  refine x_seq ?_
  refine c_seq ?_
  refine c_reg ?_
  refine r_u (o_mv rfl) ?_
  refine r_u (o_callq ca15 rfl (hawthornlaw03_few.ok a0 r0 hr0)) ?_
  obtain ⟨r4, hr4, hm5⟩ := bs hm3
  refine r_u (o_callq ca26 rfl (hawthornref03_Open.ok r0 r4 hr4)) ?_
  refine r_u (o_mv rfl) ?_
  refine r_u (o_ext rfl rfl) ?_
  refine r_u (o_ext rfl rfl) ?_
  refine r_u (o_as rfl) ?_
  refine r_u (o_as rfl) ?_
  refine r_nil ?_
  refine x_seq ?_
  refine c_seq ?_
  refine c_reg ?_
  obtain ⟨r6, hr6, hm7⟩ := bs hm5
  refine r_u (o_callq ca18 rfl (hawthornlaw03_awake.ok r6 hr6)) ?_
  refine r_u (o_mv rfl) ?_
  refine r_s (s_gt rfl rfl fun g => o_mv rfl) ?_
  refine r_s (s_gt rfl rfl fun g => o_mv rfl) ?_
  refine r_s (s_gt rfl rfl fun g => o_bin (evg rfl g) (evg rfl g) (bI_eq r2.2 r4.2)) ?_
  refine r_u (o_and rfl rfl) ?_
  refine r_u (o_mv rfl) ?_
  refine r_s (s_gt rfl rfl fun g => o_mv rfl) ?_
  refine r_s (s_gt rfl rfl fun g => o_mv rfl) ?_
  refine r_s (s_gt rfl rfl fun g => o_bin (evg rfl g) (evg rfl g) (bS_eq r2.1 r4.1)) ?_
  refine r_u (o_and rfl rfl) ?_
  refine r_u (o_as rfl) ?_
  refine r_nil ?_
  refine x_seq ?_
  refine c_ret ?_
  obtain rfl := Option.some.inj hm7
  exact x_r1 rfl (rv_t rfl) (Le.refl _) ⟨_, rfl, rfl, rfl, rfl⟩

def hawthornref03_Frame (a0 : Str) : Option Str :=
  (hawthornref03_Text a0).bind fun r0 => if [49].length + r0.length ≤ maxS then (hawthornref03_Check ([49] ++ r0)).bind fun r4 => if ([49] ++ r0).length + (hawthornref03_Four r4).length ≤ maxS then some (([49] ++ r0) ++ (hawthornref03_Four r4)) else none else none
theorem hawthornref03_Frame.ok {G R F} (a0 : Str) (r : Str) (hm : hawthornref03_Frame a0 = some r) : CO Try.prog 25 [vS a0] G R (F)
    (Ret fun u R' L' => u = vS r ∧ R' = R ∧ L' = F) := by
  unfold hawthornref03_Frame at hm
  refine co_ofN (N := 12) Try.func25 rfl rfl ?_
  refine c_seq ?_
  refine c_reg ?_
  refine r_u (o_as rfl) ?_
  refine r_nil ?_
  refine x_seq ?_
  refine c_seq ?_
  refine c_reg ?_
  refine r_u (o_mv rfl) ?_
  obtain ⟨r0, hr0, hm1⟩ := bs hm
  refine r_u (o_callq ca43 rfl (hawthornref03_Text.ok a0 r0 hr0)) ?_
  obtain ⟨h2, hm3⟩ := ig hm1
  refine r_u (o_bin rfl rfl (bS_add [49] r0 h2)) ?_
  refine r_u (o_as rfl) ?_
  refine r_nil ?_
  refine x_seq ?_
  refine c_seq ?_
  refine c_reg ?_
  refine r_u (o_mv rfl) ?_
  refine r_u (o_mv rfl) ?_
  obtain ⟨r4, hr4, hm5⟩ := bs hm3
  refine r_u (o_callq ca22 rfl (hawthornref03_Check.ok ([49] ++ r0) r4 hr4)) ?_
  refine r_u (o_callq ca73 rfl (hawthornref03_Four.ok r4 _ rfl)) ?_
  obtain ⟨h6, hm7⟩ := ig hm5
  refine r_u (o_bin rfl rfl (bS_add ([49] ++ r0) (hawthornref03_Four r4) h6)) ?_
  refine r_u (o_as rfl) ?_
  refine r_nil ?_
  refine x_seq ?_
  refine c_ret ?_
  obtain rfl := Option.some.inj hm7
  exact x_r1 rfl (rv_t rfl) (Le.refl _) ⟨_, rfl, rfl, rfl, rfl⟩

def hawthornlaw03_WireFrames (a0 : Str) (a1 : Int) : Option Bool :=
  (hawthornlaw03_few a0).bind fun r0 => (wire_Frame r0).bind fun r2 => (wire_Open r2.1).bind fun r4 => (mks 1 (i64 (65535 + (iand a1 3))) (0 : UInt8)).bind fun l7 => (wire_Frame l7).bind fun r9 => (hawthornlaw03_awake).bind fun r11 => if (r11 && (r2.2 == 0)) then (hawthornref03_Frame r0).bind fun r15 => if ((r2.1 == r15) && (r4.2 == 0)) then some (((r4.1 == r0) && ((r9.2 == 0) == (decide ((i64 (65535 + (iand a1 3))) ≤ 65536)))) && ((r9.2 == 0) || ((r9.2 == 3) && (r9.1 == [])))) else some false else some false
theorem hawthornlaw03_WireFrames.ok {G R F} (a0 : Str) (a1 : Int) (r : Bool) (hm : hawthornlaw03_WireFrames a0 a1 = some r) : CO Try.prog 5 [vS a0, vI a1] G R (F)
    (Ret fun u R' L' => u = vB r ∧ R' = R ∧ L' = F) := by
  unfold hawthornlaw03_WireFrames at hm
  refine co_ofN (N := 74) Try.func5 rfl rfl ?_
  refine c_seq ?_
  refine c_reg ?_
  refine r_u (o_as rfl) ?_
  refine r_nil ?_
  refine x_seq ?_
  refine c_seq ?_
  refine c_reg ?_
  refine r_u (o_mv rfl) ?_
  obtain ⟨r0, hr0, hm1⟩ := bs hm
  refine r_u (o_callq ca15 rfl (hawthornlaw03_few.ok a0 r0 hr0)) ?_
  obtain ⟨r2, hr2, hm3⟩ := bs hm1
  refine r_u (o_callq ca23 rfl (wire_Frame.ok r0 r2 hr2)) ?_
  refine r_u (o_mv rfl) ?_
  refine r_u (o_ext rfl rfl) ?_
  refine r_u (o_ext rfl rfl) ?_
  refine r_u (o_as rfl) ?_
  refine r_u (o_as rfl) ?_
  refine r_nil ?_
  refine x_seq ?_
  refine c_seq ?_
  refine c_reg ?_
  refine r_u (o_mv rfl) ?_
  obtain ⟨r4, hr4, hm5⟩ := bs hm3
  refine r_u (o_callq ca24 rfl (wire_Open.ok r2.1 r4 hr4)) ?_
  refine r_u (o_mv rfl) ?_
  refine r_u (o_ext rfl rfl) ?_
  refine r_u (o_ext rfl rfl) ?_
  refine r_u (o_as rfl) ?_
  refine r_u (o_as rfl) ?_
  refine r_nil ?_
  refine x_seq ?_
  refine c_seq ?_
  refine c_reg ?_
  refine r_u (o_mv rfl) ?_
  refine r_u (o_bin rfl rfl (bI_and a1 3)) ?_
  refine r_u (o_bin rfl rfl (bI_add 65535 (iand a1 3))) ?_
  refine r_u (o_as rfl) ?_
  refine r_nil ?_
  refine x_seq ?_
  refine c_seq ?_
  refine c_reg ?_
  refine r_u (o_mv rfl) ?_
  obtain ⟨l7, hl7, hm8⟩ := bs hm5
  refine r_sw (s_w (o_mk (sz := 1) (bytes := 1) (e := 5) (en := eY) Try.underlying40 rfl rfl rfl rfl rfl rfl rfl rfl rfl hl7)) ?_
  rintro v6 R _ _ ⟨rfl, rfl⟩
  refine r_u (o_bs 0 Try.underlying40 Try.underlying5 Try.underlying9 rfl rfl) ?_
  obtain ⟨r9, hr9, hm10⟩ := bs hm8
  refine r_u (o_callq ca23 rfl (wire_Frame.ok l7 r9 hr9)) ?_
  refine r_u (o_mv rfl) ?_
  refine r_u (o_ext rfl rfl) ?_
  refine r_u (o_ext rfl rfl) ?_
  refine r_u (o_as rfl) ?_
  refine r_u (o_as rfl) ?_
  refine r_nil ?_
  refine x_seq ?_
  refine c_seq ?_
  obtain ⟨r11, hr11, hm12⟩ := bs hm10
  refine cd_by (r11 && (r2.2 == 0)) (fun h13 => ?_) fun h13 => ?_
  · have hm14 := ift hm12 h13
    obtain ⟨r15, hr15, hm16⟩ := bs hm14
    refine cd_by ((r2.1 == r15) && (r4.2 == 0)) (fun h17 => ?_) fun h17 => ?_
    · have hm18 := ift hm16 h17
      refine c_reg ?_
      refine r_u (o_callq ca18 rfl (hawthornlaw03_awake.ok r11 hr11)) ?_
      refine r_u (o_mv rfl) ?_
      refine r_s (s_gt rfl rfl fun g => o_mv rfl) ?_
      refine r_s (s_gt rfl rfl fun g => o_bin (evg rfl g) rfl (bI_eq r2.2 0)) ?_
      refine r_u (o_and rfl rfl) ?_
      refine r_u (o_mv rfl) ?_
      refine r_s (s_y rfl rfl h13 (o_mv rfl)) ?_
      refine r_s (s_y rfl rfl h13 (o_mv rfl)) ?_
      refine r_s (s_y rfl rfl h13 (o_callq ca15 rfl (hawthornlaw03_few.ok a0 r0 hr0))) ?_
      refine r_s (s_y rfl rfl h13 (o_callq ca25 rfl (hawthornref03_Frame.ok r0 r15 hr15))) ?_
      refine r_s (s_y rfl rfl h13 (o_bin rfl rfl (bS_eq r2.1 r15))) ?_
      refine r_u (o_pt rfl h13 rfl) ?_
      refine r_u (o_mv rfl) ?_
      refine r_s (s_gt rfl rfl fun g => o_mv rfl) ?_
      refine r_s (s_gt rfl rfl fun g => o_bin (evg rfl g) rfl (bI_eq r4.2 0)) ?_
      refine r_u (o_and rfl rfl) ?_
      refine r_u (o_mv rfl) ?_
      refine r_s (s_y rfl rfl h17 (o_mv rfl)) ?_
      refine r_s (s_y rfl rfl h17 (o_mv rfl)) ?_
      refine r_s (s_y rfl rfl h17 (o_callq ca15 rfl (hawthornlaw03_few.ok a0 r0 hr0))) ?_
      refine r_s (s_y rfl rfl h17 (o_bin rfl rfl (bS_eq r4.1 r0))) ?_
      refine r_u (o_pt rfl h17 rfl) ?_
      refine r_u (o_mv rfl) ?_
      refine r_s (s_gt rfl rfl fun g => o_mv rfl) ?_
      refine r_s (s_gt rfl rfl fun g => o_bin (evg rfl g) rfl (bI_eq r9.2 0)) ?_
      refine r_s (s_gt rfl rfl fun g => o_mv rfl) ?_
      refine r_s (s_gt rfl rfl fun g => o_bin (evg rfl g) rfl (bI_le (i64 (65535 + (iand a1 3))) 65536)) ?_
      refine r_s (s_gt rfl rfl fun g => o_bin (evg rfl g) (evg rfl g) (bB_eq Try.underlying4 (r9.2 == 0) (decide ((i64 (65535 + (iand a1 3))) ≤ 65536)))) ?_
      refine r_u (o_and rfl rfl) ?_
      refine r_u (o_mv rfl) ?_
      refine r_s (s_gt rfl rfl fun g => o_mv rfl) ?_
      refine r_s (s_gt rfl rfl fun g => o_bin (evg rfl g) rfl (bI_eq r9.2 0)) ?_
      refine r_s (s_gt rfl rfl fun g => o_mv (evg rfl g)) ?_
      refine r_s (s_ggf rfl rfl fun g => o_mv rfl) ?_
      refine r_s (s_ggf rfl rfl fun g => o_bin (evg rfl g) rfl (bI_eq r9.2 3)) ?_
      refine r_s (s_ggf rfl rfl fun g => o_mv (evg rfl g)) ?_
      refine r_s (s_ggt rfl rfl fun g => o_mv rfl) ?_
      refine r_s (s_ggt rfl rfl fun g => o_bin (evg rfl g) rfl (bS_eq r9.1 [])) ?_
      refine r_s (s_ggf rfl rfl fun g => o_and (evg rfl g) (evg2 rfl g)) ?_
      refine r_s (s_gt rfl rfl fun g => o_or (evg rfl g) (evg2 rfl g)) ?_
      refine r_u (o_and rfl rfl) ?_
      refine r_u (o_as rfl) ?_
      refine r_nil ?_
      refine x_seq ?_
      refine c_ret ?_
      obtain rfl := Option.some.inj hm18
      refine ex_st (fun _ h => st_pk 1 [] (by decide) h) ?_
      exact x_r1 rfl (rv_t rfl) (Le.refl _) ⟨_, rfl, rfl, rfl, rfl⟩
    · have hm18 := iff_ hm16 h17
      refine c_reg ?_
      refine r_u (o_callq ca18 rfl (hawthornlaw03_awake.ok r11 hr11)) ?_
      refine r_u (o_mv rfl) ?_
      refine r_s (s_gt rfl rfl fun g => o_mv rfl) ?_
      refine r_s (s_gt rfl rfl fun g => o_bin (evg rfl g) rfl (bI_eq r2.2 0)) ?_
      refine r_u (o_and rfl rfl) ?_
      refine r_u (o_mv rfl) ?_
      refine r_s (s_y rfl rfl h13 (o_mv rfl)) ?_
      refine r_s (s_y rfl rfl h13 (o_mv rfl)) ?_
      refine r_s (s_y rfl rfl h13 (o_callq ca15 rfl (hawthornlaw03_few.ok a0 r0 hr0))) ?_
      refine r_s (s_y rfl rfl h13 (o_callq ca25 rfl (hawthornref03_Frame.ok r0 r15 hr15))) ?_
      refine r_s (s_y rfl rfl h13 (o_bin rfl rfl (bS_eq r2.1 r15))) ?_
      refine r_u (o_pt rfl h13 rfl) ?_
      refine r_u (o_mv rfl) ?_
      refine r_s (s_gt rfl rfl fun g => o_mv rfl) ?_
      refine r_s (s_gt rfl rfl fun g => o_bin (evg rfl g) rfl (bI_eq r4.2 0)) ?_
      refine r_u (o_and rfl rfl) ?_
      refine r_u (o_mv rfl) ?_
      refine r_s (s_n rfl rfl h17) ?_
      refine r_s (s_n rfl rfl h17) ?_
      refine r_s (s_n rfl rfl h17) ?_
      refine r_s (s_n rfl rfl h17) ?_
      refine r_u (o_pf rfl h17 rfl) ?_
      refine r_u (o_mv rfl) ?_
      refine r_s (s_n rfl rfl rfl) ?_
      refine r_s (s_n rfl rfl rfl) ?_
      refine r_s (s_n rfl rfl rfl) ?_
      refine r_s (s_n rfl rfl rfl) ?_
      refine r_s (s_n rfl rfl rfl) ?_
      refine r_u (o_pf rfl rfl rfl) ?_
      refine r_u (o_mv rfl) ?_
      refine r_s (s_n rfl rfl rfl) ?_
      refine r_s (s_n rfl rfl rfl) ?_
      refine r_s (s_n rfl rfl rfl) ?_
      refine r_s (s_nu rfl rfl) ?_
      refine r_s (s_nu rfl rfl) ?_
      refine r_s (s_nu rfl rfl) ?_
      refine r_s (s_nu rfl rfl) ?_
      refine r_s (s_nu rfl rfl) ?_
      refine r_s (s_nu rfl rfl) ?_
      refine r_s (s_n rfl rfl rfl) ?_
      refine r_u (o_pf rfl rfl rfl) ?_
      refine r_u (o_as rfl) ?_
      refine r_nil ?_
      refine x_seq ?_
      refine c_ret ?_
      obtain rfl := Option.some.inj hm18
      refine ex_st (fun _ h => st_pk 1 [] (by decide) h) ?_
      exact x_r1 rfl (rv_t rfl) (Le.refl _) ⟨_, rfl, rfl, rfl, rfl⟩
  · have hm14 := iff_ hm12 h13
    refine c_reg ?_
    refine r_u (o_callq ca18 rfl (hawthornlaw03_awake.ok r11 hr11)) ?_
    refine r_u (o_mv rfl) ?_
    refine r_s (s_gt rfl rfl fun g => o_mv rfl) ?_
    refine r_s (s_gt rfl rfl fun g => o_bin (evg rfl g) rfl (bI_eq r2.2 0)) ?_
    refine r_u (o_and rfl rfl) ?_
    refine r_u (o_mv rfl) ?_
    refine r_s (s_n rfl rfl h13) ?_
    refine r_s (s_n rfl rfl h13) ?_
    refine r_s (s_n rfl rfl h13) ?_
    refine r_s (s_n rfl rfl h13) ?_
    refine r_s (s_n rfl rfl h13) ?_
    refine r_u (o_pf rfl h13 rfl) ?_
    refine r_u (o_mv rfl) ?_
    refine r_s (s_n rfl rfl rfl) ?_
    refine r_s (s_n rfl rfl rfl) ?_
    refine r_u (o_pf rfl rfl rfl) ?_
    refine r_u (o_mv rfl) ?_
    refine r_s (s_n rfl rfl rfl) ?_
    refine r_s (s_n rfl rfl rfl) ?_
    refine r_s (s_n rfl rfl rfl) ?_
    refine r_s (s_n rfl rfl rfl) ?_
    refine r_u (o_pf rfl rfl rfl) ?_
    refine r_u (o_mv rfl) ?_
    refine r_s (s_n rfl rfl rfl) ?_
    refine r_s (s_n rfl rfl rfl) ?_
    refine r_s (s_n rfl rfl rfl) ?_
    refine r_s (s_n rfl rfl rfl) ?_
    refine r_s (s_n rfl rfl rfl) ?_
    refine r_u (o_pf rfl rfl rfl) ?_
    refine r_u (o_mv rfl) ?_
    refine r_s (s_n rfl rfl rfl) ?_
    refine r_s (s_n rfl rfl rfl) ?_
    refine r_s (s_n rfl rfl rfl) ?_
    refine r_s (s_nu rfl rfl) ?_
    refine r_s (s_nu rfl rfl) ?_
    refine r_s (s_nu rfl rfl) ?_
    refine r_s (s_nu rfl rfl) ?_
    refine r_s (s_nu rfl rfl) ?_
    refine r_s (s_nu rfl rfl) ?_
    refine r_s (s_n rfl rfl rfl) ?_
    refine r_u (o_pf rfl rfl rfl) ?_
    refine r_u (o_as rfl) ?_
    refine r_nil ?_
    refine x_seq ?_
    refine c_ret ?_
    obtain rfl := Option.some.inj hm14
    refine ex_st (fun _ h => st_pk 1 [] (by decide) h) ?_
    exact x_r1 rfl (rv_t rfl) (Le.refl _) ⟨_, rfl, rfl, rfl, rfl⟩

def hawthornlaw03_WirePairs_1 (a0 : wire_Reader) (a1 : UInt64) (a2 : Str) (a3 : UInt64) : Option ((wire_Reader × UInt64 × Str × UInt64) ⊕ (Int × (wire_Reader × UInt64 × Str × UInt64))) :=
  (wire_Reader_Num a0 18446744073709551615).bind fun r0 => sm r0 (fun (ra2 : UInt64 × wire_Reader) => (wire_Reader_Text ra2.2 300).bind fun r6 => sm r6 (fun (ra8 : Str × wire_Reader) => (wire_Reader_Num ra8.2 18446744073709551615).bind fun r12 => sm r12 (fun (ra14 : UInt64 × wire_Reader) => some (Sum.inl (ra14.2, ra2.1, ra8.1, ra14.1))) fun ((rn15, ro16) : Int × wire_Reader) => some (Sum.inr (rn15, (ro16, ra2.1, ra8.1, a3)))) fun ((rn9, ro10) : Int × wire_Reader) => some (Sum.inr (rn9, (ro10, ra2.1, a2, a3)))) fun ((rn3, ro4) : Int × wire_Reader) => some (Sum.inr (rn3, (ro4, a1, a2, a3)))
theorem hawthornlaw03_WirePairs_1.ok {G R F} (b0_ : Nat) (a0 : wire_Reader) (b1_ : Nat) (a1 : UInt64) (b2_ : Nat) (a2 : Str) (b3_ : Nat) (a3 : UInt64) (r : (wire_Reader × UInt64 × Str × UInt64) ⊕ (Int × (wire_Reader × UInt64 × Str × UInt64))) (hm : hawthornlaw03_WirePairs_1 a0 a1 a2 a3 = some r) : CO Try.prog 29 [pt b0_ 0, pt b1_ 0, pt b2_ 0, pt b3_ 0] G R (Bk b0_ 101 (wire_Reader.c a0) :: Bk b1_ 22 [vW a1] :: Bk b2_ 9 [vS a2] :: Bk b3_ 22 [vW a3] :: F)
    (PK 99 r (fun (a : wire_Reader × UInt64 × Str × UInt64) u R' L' => u = .tuple #[] ∧ R' = R ∧ L' = Bk b0_ 101 (wire_Reader.c a.1) :: Bk b1_ 22 [vW a.2.1] :: Bk b2_ 9 [vS a.2.2.1] :: Bk b3_ 22 [vW a.2.2.2] :: F) (fun n (o : wire_Reader × UInt64 × Str × UInt64) R' L' => R' = R ∧ L' = Bk b0_ 101 (wire_Reader.c o.1) :: Bk b1_ 22 [vW o.2.1] :: Bk b2_ 9 [vS o.2.2.1] :: Bk b3_ 22 [vW o.2.2.2] :: F)) := by
  unfold hawthornlaw03_WirePairs_1 at hm
  refine co_ofN (N := 11) Try.func29 rfl rfl ?_
  refine c_seq ?_
  obtain ⟨r0, hr0, hm1⟩ := bs hm
  rcases r0 with ra2 | ⟨rn3, ro4⟩
  · have hm5 := sm_l hm1
    refine c_reg ?_
    refine r_u (o_mv rfl) ?_
    refine r_c (s_w (o_callL ca30 rfl (wire_Reader_Num.ok b0_ a0 18446744073709551615 (Sum.inl ra2) hr0) (fun _ _ _ h => h))) ?_
    refine rl_st (fun _ h => st_pk 4 [1, 0, 2, 3] (by decide) h) ?_
    refine r_u0 (o_st sc22 rfl rfl rfl rfl rfl rfl) ?_
    refine r_nil ?_
    refine x_seq ?_
    refine c_seq ?_
    obtain ⟨r6, hr6, hm7⟩ := bs hm5
    rcases r6 with ra8 | ⟨rn9, ro10⟩
    · have hm11 := sm_l hm7
      refine c_reg ?_
      refine r_u (o_mv rfl) ?_
      refine rl_st (fun _ h => st_pk 4 [1, 0, 2, 3] (by decide) h) ?_
      refine r_c (s_w (o_callL ca31 rfl (wire_Reader_Text.ok b0_ ra2.2 300 (Sum.inl ra8) hr6) (fun _ _ _ h => h))) ?_
      refine rl_st (fun _ h => st_pk 4 [2, 0, 1, 3] (by decide) h) ?_
      refine r_u0 (o_st sc9 rfl rfl rfl rfl rfl rfl) ?_
      refine r_nil ?_
      refine x_seq ?_
      obtain ⟨r12, hr12, hm13⟩ := bs hm11
      rcases r12 with ra14 | ⟨rn15, ro16⟩
      · have hm17 := sm_l hm13
        refine c_reg ?_
        refine r_u (o_mv rfl) ?_
        refine rl_st (fun _ h => st_pk 4 [1, 0, 2, 3] (by decide) h) ?_
        refine r_c (s_w (o_callL ca30 rfl (wire_Reader_Num.ok b0_ ra8.2 18446744073709551615 (Sum.inl ra14) hr12) (fun _ _ _ h => h))) ?_
        refine rl_st (fun _ h => st_pk 4 [3, 0, 1, 2] (by decide) h) ?_
        refine r_u0 (o_st sc22 rfl rfl rfl rfl rfl rfl) ?_
        refine r_nil ?_
        refine x_end ?_
        obtain rfl := Option.some.inj hm17
        refine ex_st (fun _ h => st_pk 4 [1, 3, 2, 0] (by decide) h) ?_
        exact x_r0 rfl (Le.refl _) (.inl ⟨_, rfl, _, rfl, rfl, rfl, rfl⟩)
      · have hm17 := sm_r hm13
        refine c_reg ?_
        refine r_u (o_mv rfl) ?_
        refine rl_st (fun _ h => st_pk 4 [1, 0, 2, 3] (by decide) h) ?_
        obtain rfl := Option.some.inj hm17
        exact r_sw (s_w (o_callR ca30 rfl (wire_Reader_Num.ok b0_ ra8.2 18446744073709551615 (Sum.inr (rn15, ro16)) hr12) (by rintro _ _ _ ⟨rfl, rfl⟩; exact (px_st (fun _ h => st_pk 4 [0, 2, 1, 3] (by decide) h) (px_of (Le.refl _) (.inr ⟨_, rfl, _, rfl, rfl, rfl⟩)))))) (fun _ _ _ _ h => h.elim)
    · have hm11 := sm_r hm7
      refine c_reg ?_
      refine r_u (o_mv rfl) ?_
      refine rl_st (fun _ h => st_pk 4 [1, 0, 2, 3] (by decide) h) ?_
      obtain rfl := Option.some.inj hm11
      exact r_sw (s_w (o_callR ca31 rfl (wire_Reader_Text.ok b0_ ra2.2 300 (Sum.inr (rn9, ro10)) hr6) (by rintro _ _ _ ⟨rfl, rfl⟩; exact (px_st (fun _ h => st_pk 4 [0, 1, 2, 3] (by decide) h) (px_of (Le.refl _) (.inr ⟨_, rfl, _, rfl, rfl, rfl⟩)))))) (fun _ _ _ _ h => h.elim)
  · have hm5 := sm_r hm1
    refine c_reg ?_
    refine r_u (o_mv rfl) ?_
    obtain rfl := Option.some.inj hm5
    exact r_sw (s_w (o_callR ca30 rfl (wire_Reader_Num.ok b0_ a0 18446744073709551615 (Sum.inr (rn3, ro4)) hr0) (by rintro _ _ _ ⟨rfl, rfl⟩; exact (px_st (fun _ h => st_pk 4 [0, 1, 2, 3] (by decide) h) (px_of (Le.refl _) (.inr ⟨_, rfl, _, rfl, rfl, rfl⟩)))))) (fun _ _ _ _ h => h.elim)

def hawthornlaw03_WirePairs (a0 : UInt64) (a1 : UInt64) (a2 : Str) : Option Bool :=
  (hawthornlaw03_few a2).bind fun r0 => (wire_Num a0).bind fun r5 => (wire_Text r0).bind fun r7 => if r5.length + r7.length ≤ maxS then (wire_Num a1).bind fun r11 => if (r5 ++ r7).length + r11.length ≤ maxS then (hawthornlaw03_WirePairs_1 (⟨(r5 ++ r7) ++ r11⟩ : wire_Reader) 0 [] 0).bind fun r15 => Option.bind (sm r15 (fun (ra29 : wire_Reader × UInt64 × Str × UInt64) => some ((if ra29.1.s == [] then 0 else 5), ra29.2.1, ra29.2.2.1, ra29.2.2.2)) fun ((rn30, ro31) : Int × (wire_Reader × UInt64 × Str × UInt64)) => some (rn30, ro31.2.1, ro31.2.2.1, ro31.2.2.2)) fun p17 => (hawthornlaw03_awake).bind fun r21 => if ((((r21 && (p17.1 == 0)) && (p17.2.1 == a0)) && (p17.2.2.2 == a1)) && (p17.2.2.1 == r0)) then if ((a0 == a1) || decide ((r11.length : Int) < (r5.length : Int))) then some true else (sl r11 0 (r5.length : Int)).bind fun s27 => some (s27 != r5) else some false else none else none
theorem hawthornlaw03_WirePairs.ok {G R F} (a0 : UInt64) (a1 : UInt64) (a2 : Str) (r : Bool) (hm : hawthornlaw03_WirePairs a0 a1 a2 = some r) : CO Try.prog 8 [vW a0, vW a1, vS a2] G R (F)
    (Ret fun u R' L' => u = vB r ∧ R' = R ∧ L' = F) := by
  unfold hawthornlaw03_WirePairs at hm
  refine co_ofN (N := 70) Try.func8 rfl rfl ?_
  refine c_seq ?_
  refine c_reg ?_
  refine r_u (o_as rfl) ?_
  refine r_nil ?_
  refine x_seq ?_
  refine c_seq ?_
  refine c_reg ?_
  refine r_u (o_mv rfl) ?_
  obtain ⟨r0, hr0, hm1⟩ := bs hm
  refine r_u (o_callq ca15 rfl (hawthornlaw03_few.ok a2 r0 hr0)) ?_
  refine r_u (o_as rfl) ?_
  refine r_nil ?_
  refine x_seq ?_
  refine c_seq ?_
  refine c_reg ?_
  refine r_new (o_al ze22) fun b2 => ?_
  refine r_new (o_al ze22) fun b3 => ?_
  refine r_new (o_al ze9) fun b4 => ?_
  refine rl_st (fun _ h => st_pk 3 [2, 0, 1] (by decide) h) ?_
  refine r_u0 (o_st sc22 rfl rfl rfl rfl rfl rfl) ?_
  refine rl_st (fun _ h => st_pk 3 [2, 0, 1] (by decide) h) ?_
  refine r_u0 (o_st sc22 rfl rfl rfl rfl rfl rfl) ?_
  refine rl_st (fun _ h => st_pk 3 [2, 0, 1] (by decide) h) ?_
  refine r_u0 (o_st sc9 rfl rfl rfl rfl rfl rfl) ?_
  refine r_nil ?_
  refine x_seq ?_
  refine c_seq ?_
  obtain ⟨r5, hr5, hm6⟩ := bs hm1
  obtain ⟨r7, hr7, hm8⟩ := bs hm6
  obtain ⟨h9, hm10⟩ := ig hm8
  obtain ⟨r11, hr11, hm12⟩ := bs hm10
  obtain ⟨h13, hm14⟩ := ig hm12
  obtain ⟨r15, hr15, hm16⟩ := bs hm14
  obtain ⟨p17, hp18, hm19⟩ := bs hm16
  refine cd_join (E' := [(0, vW a0), (1, vW a1), (7, vS r0), (8, pt b2 0), (9, pt b3 0), (10, pt b4 0), (11, vI p17.1)]) (L' := Bk b2 22 [vW p17.2.1] :: Bk b4 9 [vS p17.2.2.1] :: Bk b3 22 [vW p17.2.2.2] :: F) ?_ fun K20 => ?_
  · refine x_seq ?_
    refine c_seq ?_
    refine c_reg ?_
    refine r_u (o_mv rfl) ?_
    refine r_u (o_callq ca17 rfl (wire_Num.ok a0 r5 hr5)) ?_
    refine r_u (o_mv rfl) ?_
    refine r_u (o_callq ca17 rfl (wire_Num.ok a1 r11 hr11)) ?_
    refine r_u (o_as rfl) ?_
    refine r_u (o_as rfl) ?_
    refine r_nil ?_
    refine x_seq ?_
    refine c_seq ?_
    obtain ⟨r21, hr21, hm22⟩ := bs hm19
    refine cd_by ((((r21 && (p17.1 == 0)) && (p17.2.1 == a0)) && (p17.2.2.2 == a1)) && (p17.2.2.1 == r0)) (fun h23 => ?_) fun h23 => ?_
    · have hm24 := ift hm22 h23
      refine cd_by ((a0 == a1) || decide ((r11.length : Int) < (r5.length : Int))) (fun h25 => ?_) fun h25 => ?_
      · have hm26 := ift hm24 h25
        refine c_reg ?_
        refine r_u (o_callq ca18 rfl (hawthornlaw03_awake.ok r21 hr21)) ?_
        refine r_u (o_mv rfl) ?_
        refine r_s (s_gt rfl rfl fun g => o_mv rfl) ?_
        refine r_s (s_gt rfl rfl fun g => o_bin (evg rfl g) rfl (bI_eq p17.1 0)) ?_
        refine r_u (o_and rfl rfl) ?_
        refine r_u (o_mv rfl) ?_
        refine r_s (s_gt rfl rfl fun g => o_ld 0 sc22 rfl rfl rfl) ?_
        refine r_s (s_gt rfl rfl fun g => o_mv rfl) ?_
        refine r_s (s_gt rfl rfl fun g => o_bin (evg rfl g) (evg rfl g) (bW_eq p17.2.1 a0)) ?_
        refine r_u (o_and rfl rfl) ?_
        refine r_u (o_mv rfl) ?_
        refine r_s (s_gt rfl rfl fun g => o_ld 2 sc22 rfl rfl rfl) ?_
        refine r_s (s_gt rfl rfl fun g => o_mv rfl) ?_
        refine r_s (s_gt rfl rfl fun g => o_bin (evg rfl g) (evg rfl g) (bW_eq p17.2.2.2 a1)) ?_
        refine r_u (o_and rfl rfl) ?_
        refine r_u (o_mv rfl) ?_
        refine r_s (s_gt rfl rfl fun g => o_ld 1 sc9 rfl rfl rfl) ?_
        refine r_s (s_gt rfl rfl fun g => o_mv rfl) ?_
        refine r_s (s_gt rfl rfl fun g => o_bin (evg rfl g) (evg rfl g) (bS_eq p17.2.2.1 r0)) ?_
        refine r_u (o_and rfl rfl) ?_
        refine r_u (o_mv rfl) ?_
        refine r_s (s_y rfl rfl h23 (o_mv rfl)) ?_
        refine r_s (s_y rfl rfl h23 (o_mv rfl)) ?_
        refine r_s (s_y rfl rfl h23 (o_bin rfl rfl (bW_eq a0 a1))) ?_
        refine r_s (s_y rfl rfl h23 (o_mv rfl)) ?_
        refine r_s (s_gf rfl rfl fun g => o_mv rfl) ?_
        refine r_s (s_gf rfl rfl fun g => o_lenS Try.underlying9 (evg rfl g)) ?_
        refine r_s (s_gf rfl rfl fun g => o_mv rfl) ?_
        refine r_s (s_gf rfl rfl fun g => o_lenS Try.underlying9 (evg rfl g)) ?_
        refine r_s (s_gf rfl rfl fun g => o_bin (evg rfl g) (evg rfl g) (bI_gt (r5.length : Int) (r11.length : Int))) ?_
        refine r_s (s_y rfl rfl h23 (o_or rfl rfl)) ?_
        refine r_s (s_y rfl rfl h23 (o_mv rfl)) ?_
        refine r_s (s_n rfl rfl h25) ?_
        refine r_s (s_n rfl rfl h25) ?_
        refine r_s (s_n rfl rfl h25) ?_
        refine r_s (s_n rfl rfl h25) ?_
        refine r_s (s_n rfl rfl h25) ?_
        refine r_s (s_n rfl rfl h25) ?_
        refine r_s (s_y rfl rfl h23 (o_pt rfl h25 rfl)) ?_
        refine r_u (o_pt rfl h23 rfl) ?_
        refine r_u (o_as rfl) ?_
        refine r_nil ?_
        refine x_seq ?_
        refine c_ret ?_
        obtain rfl := Option.some.inj hm26
        refine ex_st (fun _ h => st_pk 3 [] (by decide) h) ?_
        exact x_r1 rfl (rv_t rfl) (Le.refl _) ⟨_, rfl, rfl, rfl, rfl⟩
      · have hm26 := iff_ hm24 h25
        refine c_reg ?_
        refine r_u (o_callq ca18 rfl (hawthornlaw03_awake.ok r21 hr21)) ?_
        refine r_u (o_mv rfl) ?_
        refine r_s (s_gt rfl rfl fun g => o_mv rfl) ?_
        refine r_s (s_gt rfl rfl fun g => o_bin (evg rfl g) rfl (bI_eq p17.1 0)) ?_
        refine r_u (o_and rfl rfl) ?_
        refine r_u (o_mv rfl) ?_
        refine r_s (s_gt rfl rfl fun g => o_ld 0 sc22 rfl rfl rfl) ?_
        refine r_s (s_gt rfl rfl fun g => o_mv rfl) ?_
        refine r_s (s_gt rfl rfl fun g => o_bin (evg rfl g) (evg rfl g) (bW_eq p17.2.1 a0)) ?_
        refine r_u (o_and rfl rfl) ?_
        refine r_u (o_mv rfl) ?_
        refine r_s (s_gt rfl rfl fun g => o_ld 2 sc22 rfl rfl rfl) ?_
        refine r_s (s_gt rfl rfl fun g => o_mv rfl) ?_
        refine r_s (s_gt rfl rfl fun g => o_bin (evg rfl g) (evg rfl g) (bW_eq p17.2.2.2 a1)) ?_
        refine r_u (o_and rfl rfl) ?_
        refine r_u (o_mv rfl) ?_
        refine r_s (s_gt rfl rfl fun g => o_ld 1 sc9 rfl rfl rfl) ?_
        refine r_s (s_gt rfl rfl fun g => o_mv rfl) ?_
        refine r_s (s_gt rfl rfl fun g => o_bin (evg rfl g) (evg rfl g) (bS_eq p17.2.2.1 r0)) ?_
        refine r_u (o_and rfl rfl) ?_
        refine r_u (o_mv rfl) ?_
        refine r_s (s_y rfl rfl h23 (o_mv rfl)) ?_
        refine r_s (s_y rfl rfl h23 (o_mv rfl)) ?_
        refine r_s (s_y rfl rfl h23 (o_bin rfl rfl (bW_eq a0 a1))) ?_
        refine r_s (s_y rfl rfl h23 (o_mv rfl)) ?_
        refine r_s (s_gf rfl rfl fun g => o_mv rfl) ?_
        refine r_s (s_gf rfl rfl fun g => o_lenS Try.underlying9 (evg rfl g)) ?_
        refine r_s (s_gf rfl rfl fun g => o_mv rfl) ?_
        refine r_s (s_gf rfl rfl fun g => o_lenS Try.underlying9 (evg rfl g)) ?_
        refine r_s (s_gf rfl rfl fun g => o_bin (evg rfl g) (evg rfl g) (bI_gt (r5.length : Int) (r11.length : Int))) ?_
        refine r_s (s_y rfl rfl h23 (o_or rfl rfl)) ?_
        refine r_s (s_y rfl rfl h23 (o_mv rfl)) ?_
        refine r_s (s_y rfl rfl h25 (o_mv rfl)) ?_
        refine r_s (s_y rfl rfl h25 (o_mv rfl)) ?_
        refine r_s (s_y rfl rfl h25 (o_lenS Try.underlying9 rfl)) ?_
        obtain ⟨s27, hs27, hm28⟩ := bs hm26
        refine r_s (s_y rfl rfl h25 (o_slS (i := 0) (j := (r5.length : Int)) Try.underlying9 rfl rfl rfl hs27)) ?_
        refine r_s (s_y rfl rfl h25 (o_mv rfl)) ?_
        refine r_s (s_y rfl rfl h25 (o_bin rfl rfl (bS_ne s27 r5))) ?_
        refine r_s (s_y rfl rfl h23 (o_pf rfl h25 rfl)) ?_
        refine r_u (o_pt rfl h23 rfl) ?_
        refine r_u (o_as rfl) ?_
        refine r_nil ?_
        refine x_seq ?_
        refine c_ret ?_
        obtain rfl := Option.some.inj hm28
        refine ex_st (fun _ h => st_pk 3 [] (by decide) h) ?_
        exact x_r1 rfl (rv_t rfl) (Le.refl _) ⟨_, rfl, rfl, rfl, rfl⟩
    · have hm24 := iff_ hm22 h23
      refine c_reg ?_
      refine r_u (o_callq ca18 rfl (hawthornlaw03_awake.ok r21 hr21)) ?_
      refine r_u (o_mv rfl) ?_
      refine r_s (s_gt rfl rfl fun g => o_mv rfl) ?_
      refine r_s (s_gt rfl rfl fun g => o_bin (evg rfl g) rfl (bI_eq p17.1 0)) ?_
      refine r_u (o_and rfl rfl) ?_
      refine r_u (o_mv rfl) ?_
      refine r_s (s_gt rfl rfl fun g => o_ld 0 sc22 rfl rfl rfl) ?_
      refine r_s (s_gt rfl rfl fun g => o_mv rfl) ?_
      refine r_s (s_gt rfl rfl fun g => o_bin (evg rfl g) (evg rfl g) (bW_eq p17.2.1 a0)) ?_
      refine r_u (o_and rfl rfl) ?_
      refine r_u (o_mv rfl) ?_
      refine r_s (s_gt rfl rfl fun g => o_ld 2 sc22 rfl rfl rfl) ?_
      refine r_s (s_gt rfl rfl fun g => o_mv rfl) ?_
      refine r_s (s_gt rfl rfl fun g => o_bin (evg rfl g) (evg rfl g) (bW_eq p17.2.2.2 a1)) ?_
      refine r_u (o_and rfl rfl) ?_
      refine r_u (o_mv rfl) ?_
      refine r_s (s_gt rfl rfl fun g => o_ld 1 sc9 rfl rfl rfl) ?_
      refine r_s (s_gt rfl rfl fun g => o_mv rfl) ?_
      refine r_s (s_gt rfl rfl fun g => o_bin (evg rfl g) (evg rfl g) (bS_eq p17.2.2.1 r0)) ?_
      refine r_u (o_and rfl rfl) ?_
      refine r_u (o_mv rfl) ?_
      refine r_s (s_n rfl rfl h23) ?_
      refine r_s (s_n rfl rfl h23) ?_
      refine r_s (s_n rfl rfl h23) ?_
      refine r_s (s_n rfl rfl h23) ?_
      refine r_s (s_nu rfl rfl) ?_
      refine r_s (s_nu rfl rfl) ?_
      refine r_s (s_nu rfl rfl) ?_
      refine r_s (s_nu rfl rfl) ?_
      refine r_s (s_nu rfl rfl) ?_
      refine r_s (s_n rfl rfl h23) ?_
      refine r_s (s_n rfl rfl h23) ?_
      refine r_s (s_nu rfl rfl) ?_
      refine r_s (s_nu rfl rfl) ?_
      refine r_s (s_nu rfl rfl) ?_
      refine r_s (s_nu rfl rfl) ?_
      refine r_s (s_nu rfl rfl) ?_
      refine r_s (s_nu rfl rfl) ?_
      refine r_s (s_n rfl rfl h23) ?_
      refine r_u (o_pf rfl h23 rfl) ?_
      refine r_u (o_as rfl) ?_
      refine r_nil ?_
      refine x_seq ?_
      refine c_ret ?_
      obtain rfl := Option.some.inj hm24
      refine ex_st (fun _ h => st_pk 3 [] (by decide) h) ?_
      exact x_r1 rfl (rv_t rfl) (Le.refl _) ⟨_, rfl, rfl, rfl, rfl⟩
  · rcases r15 with ra29 | ⟨rn30, ro31⟩
    · have hm32 := sm_l hp18
      refine c_reg ?_
      refine r_u (o_mv rfl) ?_
      refine r_u (o_callq ca17 rfl (wire_Num.ok a0 r5 hr5)) ?_
      refine r_u (o_mv rfl) ?_
      refine r_u (o_callq ca28 rfl (wire_Text.ok r0 r7 hr7)) ?_
      refine r_u (o_bin rfl rfl (bS_add r5 r7 h9)) ?_
      refine r_u (o_mv rfl) ?_
      refine r_u (o_callq ca17 rfl (wire_Num.ok a1 r11 hr11)) ?_
      refine r_u (o_bin rfl rfl (bS_add (r5 ++ r7) r11 h13)) ?_
      refine r_u (o_mf rfl) ?_
      refine rl_st (fun _ h => st_pk 3 [2, 0, 1] (by decide) h) ?_
      refine r_c (s_w (o_call ca27 rfl (wire_Read.okL (A := [Bk b2 22 [vW 0], Bk b4 9 [vS []], Bk b3 22 [vW 0]]) (M := [Bk b2 22 [vW ra29.2.1], Bk b4 9 [vS ra29.2.2.1], Bk b3 22 [vW ra29.2.2.2]]) (s' := ra29.1.s) ca29 (fun b F => co_l (hawthornlaw03_WirePairs_1.ok b (⟨(r5 ++ r7) ++ r11⟩ : wire_Reader) b2 0 b4 [] b3 0 (Sum.inl ra29) hr15) (fun _ _ _ h => h))))) ?_
      refine r_u (o_as rfl) ?_
      refine r_nil ?_
      obtain rfl := Option.some.inj hm32
      exact x_sub K20 ⟨rfl, rfl, rfl, rfl, rfl, rfl, rfl, trivial⟩ (fun _ h => st_pk 3 [0, 1, 2] (by decide) h)
    · have hm32 := sm_r hp18
      refine c_reg ?_
      refine r_u (o_mv rfl) ?_
      refine r_u (o_callq ca17 rfl (wire_Num.ok a0 r5 hr5)) ?_
      refine r_u (o_mv rfl) ?_
      refine r_u (o_callq ca28 rfl (wire_Text.ok r0 r7 hr7)) ?_
      refine r_u (o_bin rfl rfl (bS_add r5 r7 h9)) ?_
      refine r_u (o_mv rfl) ?_
      refine r_u (o_callq ca17 rfl (wire_Num.ok a1 r11 hr11)) ?_
      refine r_u (o_bin rfl rfl (bS_add (r5 ++ r7) r11 h13)) ?_
      refine r_u (o_mf rfl) ?_
      refine rl_st (fun _ h => st_pk 3 [2, 0, 1] (by decide) h) ?_
      refine r_c (s_w (o_call ca27 rfl (wire_Read.okR (A := [Bk b2 22 [vW 0], Bk b4 9 [vS []], Bk b3 22 [vW 0]]) (M := [Bk b2 22 [vW ro31.2.1], Bk b4 9 [vS ro31.2.2.1], Bk b3 22 [vW ro31.2.2.2]]) (cs := [vS ro31.1.s]) ca29 (fun b F => co_r (hawthornlaw03_WirePairs_1.ok b (⟨(r5 ++ r7) ++ r11⟩ : wire_Reader) b2 0 b4 [] b3 0 (Sum.inr (rn30, ro31)) hr15) (fun _ _ h => h))))) ?_
      refine r_u (o_as rfl) ?_
      refine r_nil ?_
      obtain rfl := Option.some.inj hm32
      exact x_sub K20 ⟨rfl, rfl, rfl, rfl, rfl, rfl, rfl, trivial⟩ (fun _ h => st_pk 3 [0, 1, 2] (by decide) h)

def hawthornlaw03_WireSpoilt (a0 : Str) (a1 : Int) (a2 : UInt8) : Option Bool :=
  (hawthornlaw03_few a0).bind fun r0 => (wire_Frame r0).bind fun r2 => (hawthornlaw03_awake).bind fun r4 => if (((!r4 || (r2.2 != 0)) || ((r2.1.length : Int) == 0)) || (a2 == 0)) then some r4 else if r2.1.length ≤ maxLen then if (r2.1.length : Int) ≠ 0 then (gi r2.1 ((i64 ((a1.tmod (r2.1.length : Int)) + (r2.1.length : Int))).tmod (r2.1.length : Int))).bind fun x13 => (wire_Open (ls r2.1 ((i64 ((a1.tmod (r2.1.length : Int)) + (r2.1.length : Int))).tmod (r2.1.length : Int)) (x13 ^^^ a2))).bind fun r15 => some ((r15.2 != 0) && (r15.1 == [])) else none else none
theorem hawthornlaw03_WireSpoilt.ok {G R F} (a0 : Str) (a1 : Int) (a2 : UInt8) (r : Bool) (hm : hawthornlaw03_WireSpoilt a0 a1 a2 = some r) : CO Try.prog 7 [vS a0, vI a1, vY a2] G R (F)
    (Ret fun u R' L' => u = vB r ∧ R' = R ∧ L' = F) := by
  unfold hawthornlaw03_WireSpoilt at hm
  refine co_ofN (N := 66) Try.func7 rfl rfl ?_
  refine c_seq ?_
  refine c_reg ?_
  refine r_u (o_as rfl) ?_
  refine r_nil ?_
  refine x_seq ?_
  refine c_seq ?_
  refine c_reg ?_
  refine r_u (o_mv rfl) ?_
  obtain ⟨r0, hr0, hm1⟩ := bs hm
  refine r_u (o_callq ca15 rfl (hawthornlaw03_few.ok a0 r0 hr0)) ?_
  obtain ⟨r2, hr2, hm3⟩ := bs hm1
  refine r_u (o_callq ca23 rfl (wire_Frame.ok r0 r2 hr2)) ?_
  refine r_u (o_mv rfl) ?_
  refine r_u (o_ext rfl rfl) ?_
  refine r_u (o_ext rfl rfl) ?_
  refine r_u (o_as rfl) ?_
  refine r_u (o_as rfl) ?_
  refine r_nil ?_
  refine x_seq ?_
  refine c_seq ?_
  refine c_seq ?_
  refine c_reg ?_
  obtain ⟨r4, hr4, hm5⟩ := bs hm3
  refine r_u (o_callq ca18 rfl (hawthornlaw03_awake.ok r4 hr4)) ?_
  refine r_u (o_not rfl) ?_
  refine r_u (o_mv rfl) ?_
  refine r_s (s_gf rfl rfl fun g => o_mv rfl) ?_
  refine r_s (s_gf rfl rfl fun g => o_bin (evg rfl g) rfl (bI_ne r2.2 0)) ?_
  refine r_u (o_or rfl rfl) ?_
  refine r_u (o_mv rfl) ?_
  refine r_s (s_gf rfl rfl fun g => o_mv rfl) ?_
  refine r_s (s_gf rfl rfl fun g => o_lenS Try.underlying9 (evg rfl g)) ?_
  refine r_s (s_gf rfl rfl fun g => o_bin (evg rfl g) rfl (bI_eq (r2.1.length : Int) 0)) ?_
  refine r_u (o_or rfl rfl) ?_
  refine r_u (o_mv rfl) ?_
  refine r_s (s_gf rfl rfl fun g => o_mv rfl) ?_
  refine r_s (s_gf rfl rfl fun g => o_bin (evg rfl g) rfl (bY_eq a2 0)) ?_
  refine r_u (o_or rfl rfl) ?_
  refine r_nil ?_
  refine x_seq ?_
  refine c_if (b := (((!r4 || (r2.2 != 0)) || ((r2.1.length : Int) == 0)) || (a2 == 0))) rfl (fun h6 => ?_) fun h6 => ?_
  · have hm7 := ift hm5 h6
    refine c_seq ?_
    refine c_reg ?_
    refine r_u (o_callq ca18 rfl (hawthornlaw03_awake.ok r4 hr4)) ?_
    refine r_u (o_as rfl) ?_
    refine r_nil ?_
    refine x_seq ?_
    refine c_ret ?_
    obtain rfl := Option.some.inj hm7
    exact x_r1 rfl (rv_t rfl) (Le.refl _) ⟨_, rfl, rfl, rfl, rfl⟩
  · have hm7 := iff_ hm5 h6
    refine c_skip ?_
    refine x_seq ?_
    refine c_seq ?_
    refine c_reg ?_
    refine r_u (o_mv rfl) ?_
    obtain ⟨h8, hm10⟩ := ig hm7
    refine r_sw (s_w (o_sb Try.underlying9 Try.underlying40 Try.underlying5 rfl h8)) ?_
    rintro v9 R _ _ ⟨rfl, rfl⟩
    refine r_u (o_as rfl) ?_
    refine r_nil ?_
    refine x_seq ?_
    refine c_seq ?_
    refine c_reg ?_
    refine r_u (o_mv rfl) ?_
    refine r_u (o_mv rfl) ?_
    refine r_u (o_lenO 0 Try.underlying40 rfl rfl) ?_
    obtain ⟨h11, hm12⟩ := ig hm10
    refine r_u (o_bin rfl rfl (bI_rem a1 (r2.1.length : Int) h11)) ?_
    refine r_u (o_mv rfl) ?_
    refine r_u (o_lenO 0 Try.underlying40 rfl rfl) ?_
    refine r_u (o_bin rfl rfl (bI_add (a1.tmod (r2.1.length : Int)) (r2.1.length : Int))) ?_
    refine r_u (o_mv rfl) ?_
    refine r_u (o_lenO 0 Try.underlying40 rfl rfl) ?_
    refine r_u (o_bin rfl rfl (bI_rem (i64 ((a1.tmod (r2.1.length : Int)) + (r2.1.length : Int))) (r2.1.length : Int) h11)) ?_
    refine r_u (o_as rfl) ?_
    refine r_nil ?_
    refine x_seq ?_
    refine c_seq ?_
    refine c_reg ?_
    refine r_u (o_mv rfl) ?_
    refine r_u (o_mv rfl) ?_
    obtain ⟨x13, hx13, hm14⟩ := bs hm12
    refine r_u (o_ixO 0 Try.underlying40 (fun _ => by kernel_rfl) rfl rfl rfl hx13) ?_
    refine r_u (o_ldO0 0 sc5 rfl rfl hx13 rfl rfl) ?_
    refine r_u (o_mv rfl) ?_
    refine r_u (o_bin rfl rfl (bY_xor x13 a2)) ?_
    refine r_u (o_ixO 0 Try.underlying40 (fun _ => by kernel_rfl) rfl rfl rfl hx13) ?_
    refine r_u0 (o_stO0 (c' := x13 ^^^ a2) sc5 rfl rfl rfl hx13 rfl rfl rfl) ?_
    refine r_nil ?_
    refine x_seq ?_
    refine c_seq ?_
    refine c_reg ?_
    refine r_u (o_mv rfl) ?_
    refine r_u (o_bs 0 Try.underlying40 Try.underlying5 Try.underlying9 rfl rfl) ?_
    obtain ⟨r15, hr15, hm16⟩ := bs hm14
    refine r_u (o_callq ca24 rfl (wire_Open.ok (ls r2.1 ((i64 ((a1.tmod (r2.1.length : Int)) + (r2.1.length : Int))).tmod (r2.1.length : Int)) (x13 ^^^ a2)) r15 hr15)) ?_
    refine r_u (o_mv rfl) ?_
    refine r_u (o_ext rfl rfl) ?_
    refine r_u (o_ext rfl rfl) ?_
    refine r_u (o_as rfl) ?_
    refine r_u (o_as rfl) ?_
    refine r_nil ?_
    refine x_seq ?_
    refine c_seq ?_
    refine c_reg ?_
    refine r_u (o_mv rfl) ?_
    refine r_u (o_bin rfl rfl (bI_ne r15.2 0)) ?_
    refine r_u (o_mv rfl) ?_
    refine r_s (s_gt rfl rfl fun g => o_mv rfl) ?_
    refine r_s (s_gt rfl rfl fun g => o_bin (evg rfl g) rfl (bS_eq r15.1 [])) ?_
    refine r_u (o_and rfl rfl) ?_
    refine r_u (o_as rfl) ?_
    refine r_nil ?_
    refine x_seq ?_
    refine c_ret ?_
    obtain rfl := Option.some.inj hm16
    refine ex_st (fun _ h => st_pk 1 [] (by decide) h) ?_
    exact x_r1 rfl (rv_t rfl) (Le.refl _) ⟨_, rfl, rfl, rfl, rfl⟩

def hawthornlaw03_WireChecks (a0 : Str) : Option Bool :=
  Option.bind (if decide (2000 < (a0.length : Int)) then (sl a0 0 2000).bind fun s14 => some s14 else some a0) fun p0 => (hawthornlaw03_awake).bind fun r4 => if r4 then (wire_Check p0).bind fun r8 => (hawthornref03_Check p0).bind fun r10 => some (r8 == r10) else some false
theorem hawthornlaw03_WireChecks.ok {G R F} (a0 : Str) (r : Bool) (hm : hawthornlaw03_WireChecks a0 = some r) : CO Try.prog 4 [vS a0] G R (F)
    (Ret fun u R' L' => u = vB r ∧ R' = R ∧ L' = F) := by
  unfold hawthornlaw03_WireChecks at hm
  refine co_ofN (N := 16) Try.func4 rfl rfl ?_
  refine c_seq ?_
  refine c_reg ?_
  refine r_u (o_as rfl) ?_
  refine r_nil ?_
  refine x_seq ?_
  refine c_seq ?_
  refine c_seq ?_
  refine c_reg ?_
  refine r_u (o_mv rfl) ?_
  refine r_u (o_lenS Try.underlying9 rfl) ?_
  refine r_u (o_bin rfl rfl (bI_gt (a0.length : Int) 2000)) ?_
  refine r_nil ?_
  refine x_seq ?_
  obtain ⟨p0, hp1, hm2⟩ := bs hm
  refine cd_join (E' := [(0, vS p0)]) (L' := F) ?_ fun K3 => ?_
  · refine x_seq ?_
    refine c_seq ?_
    obtain ⟨r4, hr4, hm5⟩ := bs hm2
    refine cd_by r4 (fun h6 => ?_) fun h6 => ?_
    · have hm7 := ift hm5 h6
      refine c_reg ?_
      refine r_u (o_callq ca18 rfl (hawthornlaw03_awake.ok r4 hr4)) ?_
      refine r_u (o_mv rfl) ?_
      refine r_s (s_y rfl rfl h6 (o_mv rfl)) ?_
      obtain ⟨r8, hr8, hm9⟩ := bs hm7
      refine r_s (s_y rfl rfl h6 (o_callq ca21 rfl (wire_Check.ok p0 r8 hr8))) ?_
      refine r_s (s_y rfl rfl h6 (o_mv rfl)) ?_
      obtain ⟨r10, hr10, hm11⟩ := bs hm9
      refine r_s (s_y rfl rfl h6 (o_callq ca22 rfl (hawthornref03_Check.ok p0 r10 hr10))) ?_
      refine r_s (s_y rfl rfl h6 (o_bin rfl rfl (bD_eq r8 r10))) ?_
      refine r_u (o_pt rfl h6 rfl) ?_
      refine r_u (o_as rfl) ?_
      refine r_nil ?_
      refine x_seq ?_
      refine c_ret ?_
      obtain rfl := Option.some.inj hm11
      exact x_r1 rfl (rv_t rfl) (Le.refl _) ⟨_, rfl, rfl, rfl, rfl⟩
    · have hm7 := iff_ hm5 h6
      refine c_reg ?_
      refine r_u (o_callq ca18 rfl (hawthornlaw03_awake.ok r4 hr4)) ?_
      refine r_u (o_mv rfl) ?_
      refine r_s (s_n rfl rfl h6) ?_
      refine r_s (s_n rfl rfl h6) ?_
      refine r_s (s_n rfl rfl h6) ?_
      refine r_s (s_n rfl rfl h6) ?_
      refine r_s (s_n rfl rfl h6) ?_
      refine r_u (o_pf rfl h6 rfl) ?_
      refine r_u (o_as rfl) ?_
      refine r_nil ?_
      refine x_seq ?_
      refine c_ret ?_
      obtain rfl := Option.some.inj hm7
      exact x_r1 rfl (rv_t rfl) (Le.refl _) ⟨_, rfl, rfl, rfl, rfl⟩
  · refine c_if (b := decide (2000 < (a0.length : Int))) rfl (fun h12 => ?_) fun h12 => ?_
    · have hm13 := ift hp1 h12
      refine c_reg ?_
      refine r_u (o_mv rfl) ?_
      obtain ⟨s14, hs14, hm15⟩ := bs hm13
      refine r_u (o_slS (i := 0) (j := 2000) Try.underlying9 rfl rfl rfl hs14) ?_
      refine r_u (o_as rfl) ?_
      refine r_nil ?_
      obtain rfl := Option.some.inj hm15
      exact x_sub K3 ⟨rfl, trivial⟩ (fun _ h => st_pk 0 [] (by decide) h)
    · have hm13 := iff_ hp1 h12
      refine c_skip ?_
      obtain rfl := Option.some.inj hm13
      exact x_sub K3 ⟨rfl, trivial⟩ (fun _ h => st_pk 0 [] (by decide) h)

def hawthornlaw03_WireReads_1_l0 (a1 : Int) (a2 : List hawthornlaw03_Step) : Nat → Int → Str → (List Int) → Option ((Str × List Int) ⊕ ((wire_Reader × List Int) ⊕ (Int × (wire_Reader × List Int))))
  | 0, _, _, _ => none
  | k10 + 1, i_6, c_7, c_8 => if decide (i_6 < a1) then (gi a2 i_6).bind fun x15 => Option.bind (if (x15.Kind == 0) then (wire_Reader_Num (⟨c_7⟩ : wire_Reader) (toW x15.N)).bind fun r28 => sm r28 (fun (ra30 : UInt64 × wire_Reader) => some (Sum.inl ra30.2.s)) fun ((rn31, ro32) : Int × wire_Reader) => some (Sum.inr (Sum.inr (Sum.inr (rn31, (ro32, c_8))))) else Option.bind (if (x15.Kind == 1) then (wire_Reader_Text (⟨c_7⟩ : wire_Reader) x15.N).bind fun r41 => sm r41 (fun (ra43 : Str × wire_Reader) => some (Sum.inl ra43.2.s)) fun ((rn44, ro45) : Int × wire_Reader) => some (Sum.inr (Sum.inr (Sum.inr (Sum.inr (rn44, (ro45, c_8)))))) else Option.bind (if (x15.Kind == 2) then (wire_Reader_Flag (⟨c_7⟩ : wire_Reader)).bind fun r54 => sm r54 (fun (ra56 : Bool × wire_Reader) => some (Sum.inl ra56.2.s)) fun ((rn57, ro58) : Int × wire_Reader) => some (Sum.inr (Sum.inr (Sum.inr (Sum.inr (Sum.inr (rn57, (ro58, c_8))))))) else Option.bind (if (x15.Kind == 3) then (wire_Reader_Bytes (⟨c_7⟩ : wire_Reader) x15.N).bind fun r67 => sm r67 (fun (ra69 : Str × wire_Reader) => some (Sum.inl ra69.2.s)) fun ((rn70, ro71) : Int × wire_Reader) => some (Sum.inr (Sum.inr (Sum.inr (Sum.inr (Sum.inr (Sum.inr (rn70, (ro71, c_8)))))))) else lt (wire_Reader_Must (⟨c_7⟩ : wire_Reader) x15.OK) fun r73 => sm r73 (fun (ra75 : Unit) => some (Sum.inl c_7)) fun ((rn76, ro77) : Int × Unit) => some (Sum.inr (Sum.inr (Sum.inr (Sum.inr (Sum.inr (Sum.inr (rn76, ((⟨c_7⟩ : wire_Reader), c_8))))))))) fun (p60 : Str ⊕ (Str ⊕ (Str ⊕ (Str ⊕ ((Str × List Int) ⊕ ((wire_Reader × List Int) ⊕ (Int × (wire_Reader × List Int)))))))) => (match p60 with | Sum.inl q61 => some (Sum.inl q61) | Sum.inr r => some r)) fun (p47 : Str ⊕ (Str ⊕ (Str ⊕ ((Str × List Int) ⊕ ((wire_Reader × List Int) ⊕ (Int × (wire_Reader × List Int))))))) => (match p47 with | Sum.inl q48 => some (Sum.inl q48) | Sum.inr r => some r)) fun (p34 : Str ⊕ (Str ⊕ ((Str × List Int) ⊕ ((wire_Reader × List Int) ⊕ (Int × (wire_Reader × List Int)))))) => (match p34 with | Sum.inl q35 => some (Sum.inl q35) | Sum.inr r => some r)) fun (p17 : Str ⊕ ((Str × List Int) ⊕ ((wire_Reader × List Int) ⊕ (Int × (wire_Reader × List Int))))) => (match p17 with | Sum.inl q18 => (apd 8 c_8 [(wire_Reader_Left (⟨q18⟩ : wire_Reader))]).bind fun l24 => hawthornlaw03_WireReads_1_l0 a1 a2 k10 (i64 (i_6 + 1)) q18 l24 | Sum.inr r => some r) else some (Sum.inl (c_7, c_8))
def hawthornlaw03_WireReads_1 (a0 : wire_Reader) (a1 : Int) (a2 : List hawthornlaw03_Step) (a3 : List Int) : Option ((wire_Reader × List Int) ⊕ (Int × (wire_Reader × List Int))) :=
  Option.bind (hawthornlaw03_WireReads_1_l0 a1 a2 ((a1 - 0).toNat + 1) 0 a0.s a3) fun (p0 : (Str × List Int) ⊕ ((wire_Reader × List Int) ⊕ (Int × (wire_Reader × List Int)))) => (match p0 with | Sum.inl q1 => some (Sum.inl ((⟨q1.1⟩ : wire_Reader), q1.2)) | Sum.inr r => some r)
theorem hawthornlaw03_WireReads_1.ok {G R F} (b0_ : Nat) (a0 : wire_Reader) (b1_ : Nat) (a1 : Int) (b2_ : Nat) (a2 : List hawthornlaw03_Step) (w2_ : Value) (h2_ : RoS R w2_ 3 hawthornlaw03_Step.c a2) (b3_ : Nat) (a3 : List Int) (g3_ : Value) (r : (wire_Reader × List Int) ⊕ (Int × (wire_Reader × List Int))) (hm : hawthornlaw03_WireReads_1 a0 a1 a2 a3 = some r) : CO Try.prog 32 [pt b0_ 0, pt b1_ 0, pt b2_ 0, pt b3_ 0] G R (Bk b0_ 101 (wire_Reader.c a0) :: Bk b1_ 3 [vI a1] :: Bk b2_ 50 [w2_] :: Bk b3_ 51 [g3_] :: OwS true 3 1 eI g3_ a3 :: F)
    (PK 99 r (fun (a : wire_Reader × List Int) u R' L' => ∃ (q3 : Value), u = .tuple #[] ∧ R' = R ∧ L' = Bk b0_ 101 (wire_Reader.c a.1) :: Bk b1_ 3 [vI a1] :: Bk b2_ 50 [w2_] :: Bk b3_ 51 [q3] :: OwS true 3 1 eI q3 a.2 :: F) (fun n (o : wire_Reader × List Int) R' L' => ∃ (q3 : Value), R' = R ∧ L' = Bk b0_ 101 (wire_Reader.c o.1) :: Bk b1_ 3 [vI a1] :: Bk b2_ 50 [w2_] :: Bk b3_ 51 [q3] :: OwS true 3 1 eI q3 o.2 :: F)) := by
  unfold hawthornlaw03_WireReads_1 at hm
  refine co_ofN (N := 60) Try.func32 rfl rfl ?_
  refine c_seq ?_
  refine c_reg ?_
  refine r_u (o_as rfl) ?_
  refine r_nil ?_
  refine x_seq ?_
  obtain ⟨p0, hp3, hm4⟩ := bs hm
  refine cd_cut (fun x ks => ∀ (q1 : Str × List Int), ∀ (_ : p0 = Sum.inl q1), ∀ (g2 : Value), EX x .normal ks [] R (Bk b0_ 101 [vS q1.1] :: Bk b1_ 3 [vI a1] :: Bk b2_ 50 [w2_] :: Bk b3_ 51 [g2] :: OwS true 3 1 eI g2 q1.2 :: F)) ?_ fun K5 => ?_
  · intro q1 hq g2
    subst hq
    try dsimp only at hm4
    refine x_end ?_
    obtain rfl := Option.some.inj hm4
    exact x_r0 rfl (Le.refl _) (.inl ⟨_, rfl, _, rfl, g2, rfl, rfl, rfl⟩)
  · refine c_blk ?_
    refine cd_loopG (M := fun k10 (s : Int × Str × List Int × Value) => hawthornlaw03_WireReads_1_l0 a1 a2 k10 s.1 s.2.1 s.2.2.1 = some p0) (Ef := fun (s : Int × Str × List Int × Value) => [(0, pt b0_ 0), (1, pt b1_ 0), (2, pt b2_ 0), (3, pt b3_ 0), (5, vI s.1)]) (Rf := fun (s : Int × Str × List Int × Value) => R) (Lf := fun (s : Int × Str × List Int × Value) => Bk b0_ 101 [vS s.2.1] :: Bk b1_ 3 [vI a1] :: Bk b2_ 50 [w2_] :: Bk b3_ 51 [s.2.2.2] :: OwS true 3 1 eI s.2.2.2 s.2.2.1 :: F) ((a1 - 0).toNat + 1) (0, a0.s, a3, g3_) hp3 ⟨rfl, rfl, rfl, rfl, rfl, trivial⟩ (fun _ h => st_pk 5 [0, 1, 2, 3, 4] (by decide) h) (fun _ h => by cases h) fun k10 s hM12 => ?_
    obtain ⟨i_6, c_7, c_8, g9⟩ := s
    have hm11 : hawthornlaw03_WireReads_1_l0 a1 a2 (k10 + 1) i_6 c_7 c_8 = some p0 := hM12
    rw [hawthornlaw03_WireReads_1_l0] at hm11
    refine c_seq ?_
    refine c_seq ?_
    refine c_reg ?_
    refine r_u (o_mv rfl) ?_
    refine r_u (o_ld 1 sc3 rfl rfl rfl) ?_
    refine r_u (o_bin rfl rfl (bI_lt i_6 a1)) ?_
    refine r_nil ?_
    refine x_seq ?_
    refine c_if (b := decide (i_6 < a1)) rfl (fun h13 => ?_) fun h13 => ?_
    · have hm14 := ift hm11 h13
      refine c_skip ?_
      refine x_seq ?_
      refine c_seq ?_
      refine c_blk ?_
      refine c_seq ?_
      refine c_seq ?_
      refine c_reg ?_
      refine r_u (o_ld 2 sc50 rfl rfl rfl) ?_
      refine r_u (o_mv rfl) ?_
      obtain ⟨x15, hx15, hm16⟩ := bs hm14
      obtain ⟨b15, o15, l15, T15, fr15, c15, hv15, hR15, he15, hi15⟩ := RoS.ne h2_ hx15
      refine r_u (o_ix (sz := 3) Try.underlying50 (fun _ => by kernel_rfl) rfl rfl hv15 hi15) ?_
      refine r_u (o_fa fa53_0 rfl) ?_
      refine r_u (o_ldR sc3 rfl hR15 (rok 0 he15 (by decide))) ?_
      refine r_nil ?_
      refine x_seq ?_
      refine c_blk ?_
      refine c_seq ?_
      refine c_reg ?_
      refine r_u (o_bin rfl rfl (bI_eq x15.Kind 0)) ?_
      refine r_u (o_as rfl) ?_
      refine r_nil ?_
      refine x_seq ?_
      obtain ⟨p17, hp19, hm20⟩ := bs hm16
      refine cd_joinS (p := p17) (Ef := fun q18 => [(0, pt b0_ 0), (1, pt b1_ 0), (2, pt b2_ 0), (3, pt b3_ 0), (5, vI i_6)]) (Lf := fun q18 => Bk b0_ 101 [vS q18] :: Bk b1_ 3 [vI a1] :: Bk b2_ 50 [w2_] :: Bk b3_ 51 [g9] :: OwS true 3 1 eI g9 c_8 :: F) (fun q18 hq => ?_) fun K21 => ?_
      · subst hq
        try dsimp only at hm20
        refine x_blk ?_
        refine x_seq ?_
        obtain ⟨l24, hl24, hm25⟩ := bs hm20
        refine c_any mixed (effs := [2, 3, 4, 5]) (V := []) ?_
        refine stage_ext [(0, g9), (1, pt b0_ 0)] rfl ?_
        refine stage rfl rfl rfl rfl [0, 0, 2, 6, 15, 31] [0, 1] [2] rfl rfl rfl (qc rfl rfl (s_u (o_ld 3 sc51 rfl rfl rfl)) (qc rfl rfl (s_u (o_mv rfl)) qn)) ?_ (fun h => absurd h (by decide))
        refine ec (eo_c rfl (s_w (o_call ca36 rfl (wire_Reader_Left.ok b0_ (⟨q18⟩ : wire_Reader) _ rfl))) ?_) en
        refine stage rfl rfl rfl rfl [0, 0, 2, 6, 15, 31] [0] [3] rfl rfl rfl (qc rfl rfl (s_u (o_ld 3 sc51 rfl rfl rfl)) qn) ?_ (fun h => absurd h (by decide))
        refine ec (eo_w rfl (s_w (o_bsl (en := eI) (sz := 1) (e := 3) (cs := [vI (wire_Reader_Left (⟨q18⟩ : wire_Reader))]) (r := [(wire_Reader_Left (⟨q18⟩ : wire_Reader))]) rfl (fun _ => by kernel_rfl) rfl (by decide) rfl (fun _ => rfl))) ?_) en
        rintro v22 R _ _ ⟨rfl, rfl⟩
        refine stage_st (fun _ h => st_pk 6 [5, 0, 1, 2, 3, 4] (by decide) h) ?_
        refine stage rfl rfl rfl rfl [0, 0, 2, 6, 15, 31] [0] [4] rfl rfl rfl (qc rfl rfl (s_u (o_ld 5 sc51 rfl rfl rfl)) qn) ?_ (fun h => absurd h (by decide))
        refine ec (eo_w rfl (s_w (o_ap (sz := 1) (bytes := 8) 0 Try.underlying51 rfl rfl rfl rfl rfl (by decide) (by decide) (fun _ _ _ h => by simp at h; subst h; rfl) (fun _ => rfl) rfl rfl rfl rfl (Nat.succ_pos _) hl24)) ?_) en
        rintro v23 R _ _ ⟨rfl, rfl⟩
        refine stage_st (fun _ h => st_pk 6 [5, 0, 1, 2, 3, 4] (by decide) h) ?_
        refine stage rfl rfl rfl rfl [0, 0, 2, 6, 15, 31] [] [5] rfl rfl rfl qn ?_ (fun h => absurd h (by decide))
        refine ec (eo_u rfl (s_u (ou_if (one_o 1 rfl) fun ho0 => o_st sc51 rfl rfl rfl ho0 rfl rfl)) (Le.refl _) ?_) en
        refine stage rfl rfl rfl rfl [0, 0, 2, 6, 15, 31] [] [] rfl rfl rfl qn en ?_
        intro _
        refine ex_sub (E' := [(0, pt b0_ 0), (1, pt b1_ 0), (2, pt b2_ 0), (3, pt b3_ 0), (5, vI i_6)]) ⟨rfl, rfl, rfl, rfl, rfl, trivial⟩ ?_
        refine x_blk ?_
        refine x_seq ?_
        refine c_reg ?_
        refine r_u (o_mv rfl) ?_
        refine r_u (o_bin rfl rfl (bI_add i_6 1)) ?_
        refine r_u (o_as rfl) ?_
        refine r_nil ?_
        exact x_lp (i64 (i_6 + 1), q18, l24, v23) hm25 ⟨rfl, rfl, rfl, rfl, rfl, trivial⟩ (fun _ h => st_pk 6 [3, 4, 5, 0, 1] (by decide) h)
      · refine c_if (b := (x15.Kind == 0)) rfl (fun h26 => ?_) fun h26 => ?_
        · have hm27 := ift hp19 h26
          obtain ⟨r28, hr28, hm29⟩ := bs hm27
          rcases r28 with ra30 | ⟨rn31, ro32⟩
          · have hm33 := sm_l hm29
            refine c_reg ?_
            refine r_u (o_mv rfl) ?_
            refine r_u (o_ld 2 sc50 rfl rfl rfl) ?_
            refine r_u (o_mv rfl) ?_
            refine r_u (o_ix (sz := 3) Try.underlying50 (fun _ => by kernel_rfl) rfl rfl hv15 hi15) ?_
            refine r_u (o_fa fa53_1 rfl) ?_
            refine r_u (o_ldR sc3 rfl hR15 (rok 1 he15 (by decide))) ?_
            refine r_u (o_cv rfl (cIW Try.underlying3 Try.underlying22 x15.N)) ?_
            refine r_c (s_w (o_callL ca30 rfl (wire_Reader_Num.ok b0_ (⟨c_7⟩ : wire_Reader) (toW x15.N) (Sum.inl ra30) hr28) (fun _ _ _ h => h))) ?_
            refine r_nil ?_
            obtain rfl := Option.some.inj hm33
            exact x_sub (K21 _ rfl) ⟨rfl, rfl, rfl, rfl, rfl, trivial⟩ (fun _ h => st_pk 5 [0, 1, 2, 3, 4] (by decide) h)
          · have hm33 := sm_r hm29
            refine c_reg ?_
            refine r_u (o_mv rfl) ?_
            refine r_u (o_ld 2 sc50 rfl rfl rfl) ?_
            refine r_u (o_mv rfl) ?_
            refine r_u (o_ix (sz := 3) Try.underlying50 (fun _ => by kernel_rfl) rfl rfl hv15 hi15) ?_
            refine r_u (o_fa fa53_1 rfl) ?_
            refine r_u (o_ldR sc3 rfl hR15 (rok 1 he15 (by decide))) ?_
            refine r_u (o_cv rfl (cIW Try.underlying3 Try.underlying22 x15.N)) ?_
            obtain rfl := Option.some.inj hm33
            try dsimp only at hm20
            obtain rfl := Option.some.inj hm20
            try dsimp only at hm4
            obtain rfl := Option.some.inj hm4
            exact r_sw (s_w (o_callR ca30 rfl (wire_Reader_Num.ok b0_ (⟨c_7⟩ : wire_Reader) (toW x15.N) (Sum.inr (rn31, ro32)) hr28) (by rintro _ _ _ ⟨rfl, rfl⟩; exact (px_st (fun _ h => st_pk 5 [0, 1, 2, 3, 4] (by decide) h) (px_of (Le.refl _) (.inr ⟨_, rfl, _, rfl, g9, rfl, rfl⟩)))))) (fun _ _ _ _ h => h.elim)
        · have hm27 := iff_ hp19 h26
          refine c_seq ?_
          refine c_reg ?_
          refine r_u (o_bin rfl rfl (bI_eq x15.Kind 1)) ?_
          refine r_u (o_as rfl) ?_
          refine r_nil ?_
          refine x_seq ?_
          obtain ⟨p34, hp36, hm37⟩ := bs hm27
          refine cd_joinS (p := p34) (Ef := fun q35 => [(0, pt b0_ 0), (1, pt b1_ 0), (2, pt b2_ 0), (3, pt b3_ 0), (5, vI i_6)]) (Lf := fun q35 => Bk b0_ 101 [vS q35] :: Bk b1_ 3 [vI a1] :: Bk b2_ 50 [w2_] :: Bk b3_ 51 [g9] :: OwS true 3 1 eI g9 c_8 :: F) (fun q35 hq => ?_) fun K38 => ?_
          · subst hq
            try dsimp only at hm37
            obtain rfl := Option.some.inj hm37
            exact x_sub (K21 _ rfl) ⟨rfl, rfl, rfl, rfl, rfl, trivial⟩ (fun _ h => st_pk 5 [0, 1, 2, 3, 4] (by decide) h)
          · refine c_if (b := (x15.Kind == 1)) rfl (fun h39 => ?_) fun h39 => ?_
            · have hm40 := ift hp36 h39
              obtain ⟨r41, hr41, hm42⟩ := bs hm40
              rcases r41 with ra43 | ⟨rn44, ro45⟩
              · have hm46 := sm_l hm42
                refine c_reg ?_
                refine r_u (o_mv rfl) ?_
                refine r_u (o_ld 2 sc50 rfl rfl rfl) ?_
                refine r_u (o_mv rfl) ?_
                refine r_u (o_ix (sz := 3) Try.underlying50 (fun _ => by kernel_rfl) rfl rfl hv15 hi15) ?_
                refine r_u (o_fa fa53_1 rfl) ?_
                refine r_u (o_ldR sc3 rfl hR15 (rok 1 he15 (by decide))) ?_
                refine r_c (s_w (o_callL ca31 rfl (wire_Reader_Text.ok b0_ (⟨c_7⟩ : wire_Reader) x15.N (Sum.inl ra43) hr41) (fun _ _ _ h => h))) ?_
                refine r_nil ?_
                obtain rfl := Option.some.inj hm46
                exact x_sub (K38 _ rfl) ⟨rfl, rfl, rfl, rfl, rfl, trivial⟩ (fun _ h => st_pk 5 [0, 1, 2, 3, 4] (by decide) h)
              · have hm46 := sm_r hm42
                refine c_reg ?_
                refine r_u (o_mv rfl) ?_
                refine r_u (o_ld 2 sc50 rfl rfl rfl) ?_
                refine r_u (o_mv rfl) ?_
                refine r_u (o_ix (sz := 3) Try.underlying50 (fun _ => by kernel_rfl) rfl rfl hv15 hi15) ?_
                refine r_u (o_fa fa53_1 rfl) ?_
                refine r_u (o_ldR sc3 rfl hR15 (rok 1 he15 (by decide))) ?_
                obtain rfl := Option.some.inj hm46
                try dsimp only at hm37
                obtain rfl := Option.some.inj hm37
                try dsimp only at hm20
                obtain rfl := Option.some.inj hm20
                try dsimp only at hm4
                obtain rfl := Option.some.inj hm4
                exact r_sw (s_w (o_callR ca31 rfl (wire_Reader_Text.ok b0_ (⟨c_7⟩ : wire_Reader) x15.N (Sum.inr (rn44, ro45)) hr41) (by rintro _ _ _ ⟨rfl, rfl⟩; exact (px_st (fun _ h => st_pk 5 [0, 1, 2, 3, 4] (by decide) h) (px_of (Le.refl _) (.inr ⟨_, rfl, _, rfl, g9, rfl, rfl⟩)))))) (fun _ _ _ _ h => h.elim)
            · have hm40 := iff_ hp36 h39
              refine c_seq ?_
              refine c_reg ?_
              refine r_u (o_bin rfl rfl (bI_eq x15.Kind 2)) ?_
              refine r_u (o_as rfl) ?_
              refine r_nil ?_
              refine x_seq ?_
              obtain ⟨p47, hp49, hm50⟩ := bs hm40
              refine cd_joinS (p := p47) (Ef := fun q48 => [(0, pt b0_ 0), (1, pt b1_ 0), (2, pt b2_ 0), (3, pt b3_ 0), (5, vI i_6)]) (Lf := fun q48 => Bk b0_ 101 [vS q48] :: Bk b1_ 3 [vI a1] :: Bk b2_ 50 [w2_] :: Bk b3_ 51 [g9] :: OwS true 3 1 eI g9 c_8 :: F) (fun q48 hq => ?_) fun K51 => ?_
              · subst hq
                try dsimp only at hm50
                obtain rfl := Option.some.inj hm50
                exact x_sub (K38 _ rfl) ⟨rfl, rfl, rfl, rfl, rfl, trivial⟩ (fun _ h => st_pk 5 [0, 1, 2, 3, 4] (by decide) h)
              · refine c_if (b := (x15.Kind == 2)) rfl (fun h52 => ?_) fun h52 => ?_
                · have hm53 := ift hp49 h52
                  obtain ⟨r54, hr54, hm55⟩ := bs hm53
                  rcases r54 with ra56 | ⟨rn57, ro58⟩
                  · have hm59 := sm_l hm55
                    refine c_reg ?_
                    refine r_u (o_mv rfl) ?_
                    refine r_c (s_w (o_callL ca33 rfl (wire_Reader_Flag.ok b0_ (⟨c_7⟩ : wire_Reader) (Sum.inl ra56) hr54) (fun _ _ _ h => h))) ?_
                    refine r_nil ?_
                    obtain rfl := Option.some.inj hm59
                    exact x_sub (K51 _ rfl) ⟨rfl, rfl, rfl, rfl, rfl, trivial⟩ (fun _ h => st_pk 5 [0, 1, 2, 3, 4] (by decide) h)
                  · have hm59 := sm_r hm55
                    refine c_reg ?_
                    refine r_u (o_mv rfl) ?_
                    obtain rfl := Option.some.inj hm59
                    try dsimp only at hm50
                    obtain rfl := Option.some.inj hm50
                    try dsimp only at hm37
                    obtain rfl := Option.some.inj hm37
                    try dsimp only at hm20
                    obtain rfl := Option.some.inj hm20
                    try dsimp only at hm4
                    obtain rfl := Option.some.inj hm4
                    exact r_sw (s_w (o_callR ca33 rfl (wire_Reader_Flag.ok b0_ (⟨c_7⟩ : wire_Reader) (Sum.inr (rn57, ro58)) hr54) (by rintro _ _ _ ⟨rfl, rfl⟩; exact (px_st (fun _ h => st_pk 5 [0, 1, 2, 3, 4] (by decide) h) (px_of (Le.refl _) (.inr ⟨_, rfl, _, rfl, g9, rfl, rfl⟩)))))) (fun _ _ _ _ h => h.elim)
                · have hm53 := iff_ hp49 h52
                  refine c_seq ?_
                  refine c_reg ?_
                  refine r_u (o_bin rfl rfl (bI_eq x15.Kind 3)) ?_
                  refine r_u (o_as rfl) ?_
                  refine r_nil ?_
                  refine x_seq ?_
                  obtain ⟨p60, hp62, hm63⟩ := bs hm53
                  refine cd_joinS (p := p60) (Ef := fun q61 => [(0, pt b0_ 0), (1, pt b1_ 0), (2, pt b2_ 0), (3, pt b3_ 0), (5, vI i_6)]) (Lf := fun q61 => Bk b0_ 101 [vS q61] :: Bk b1_ 3 [vI a1] :: Bk b2_ 50 [w2_] :: Bk b3_ 51 [g9] :: OwS true 3 1 eI g9 c_8 :: F) (fun q61 hq => ?_) fun K64 => ?_
                  · subst hq
                    try dsimp only at hm63
                    obtain rfl := Option.some.inj hm63
                    exact x_sub (K51 _ rfl) ⟨rfl, rfl, rfl, rfl, rfl, trivial⟩ (fun _ h => st_pk 5 [0, 1, 2, 3, 4] (by decide) h)
                  · refine c_if (b := (x15.Kind == 3)) rfl (fun h65 => ?_) fun h65 => ?_
                    · have hm66 := ift hp62 h65
                      obtain ⟨r67, hr67, hm68⟩ := bs hm66
                      rcases r67 with ra69 | ⟨rn70, ro71⟩
                      · have hm72 := sm_l hm68
                        refine c_reg ?_
                        refine r_u (o_mv rfl) ?_
                        refine r_u (o_ld 2 sc50 rfl rfl rfl) ?_
                        refine r_u (o_mv rfl) ?_
                        refine r_u (o_ix (sz := 3) Try.underlying50 (fun _ => by kernel_rfl) rfl rfl hv15 hi15) ?_
                        refine r_u (o_fa fa53_1 rfl) ?_
                        refine r_u (o_ldR sc3 rfl hR15 (rok 1 he15 (by decide))) ?_
                        refine r_c (s_w (o_callL ca34 rfl (wire_Reader_Bytes.ok b0_ (⟨c_7⟩ : wire_Reader) x15.N (Sum.inl ra69) hr67) (fun _ _ _ h => h))) ?_
                        refine r_nil ?_
                        obtain rfl := Option.some.inj hm72
                        exact x_sub (K64 _ rfl) ⟨rfl, rfl, rfl, rfl, rfl, trivial⟩ (fun _ h => st_pk 5 [0, 1, 2, 3, 4] (by decide) h)
                      · have hm72 := sm_r hm68
                        refine c_reg ?_
                        refine r_u (o_mv rfl) ?_
                        refine r_u (o_ld 2 sc50 rfl rfl rfl) ?_
                        refine r_u (o_mv rfl) ?_
                        refine r_u (o_ix (sz := 3) Try.underlying50 (fun _ => by kernel_rfl) rfl rfl hv15 hi15) ?_
                        refine r_u (o_fa fa53_1 rfl) ?_
                        refine r_u (o_ldR sc3 rfl hR15 (rok 1 he15 (by decide))) ?_
                        obtain rfl := Option.some.inj hm72
                        try dsimp only at hm63
                        obtain rfl := Option.some.inj hm63
                        try dsimp only at hm50
                        obtain rfl := Option.some.inj hm50
                        try dsimp only at hm37
                        obtain rfl := Option.some.inj hm37
                        try dsimp only at hm20
                        obtain rfl := Option.some.inj hm20
                        try dsimp only at hm4
                        obtain rfl := Option.some.inj hm4
                        exact r_sw (s_w (o_callR ca34 rfl (wire_Reader_Bytes.ok b0_ (⟨c_7⟩ : wire_Reader) x15.N (Sum.inr (rn70, ro71)) hr67) (by rintro _ _ _ ⟨rfl, rfl⟩; exact (px_st (fun _ h => st_pk 5 [0, 1, 2, 3, 4] (by decide) h) (px_of (Le.refl _) (.inr ⟨_, rfl, _, rfl, g9, rfl, rfl⟩)))))) (fun _ _ _ _ h => h.elim)
                    · have hm66 := iff_ hp62 h65
                      obtain ⟨r73, hr73, hm74⟩ := ltx hm66
                      rcases r73 with ra75 | ⟨rn76, ro77⟩
                      · have hm78 := sm_l hm74
                        refine c_reg ?_
                        refine r_u (o_mv rfl) ?_
                        refine r_u (o_ld 2 sc50 rfl rfl rfl) ?_
                        refine r_u (o_mv rfl) ?_
                        refine r_u (o_ix (sz := 3) Try.underlying50 (fun _ => by kernel_rfl) rfl rfl hv15 hi15) ?_
                        refine r_u (o_fa fa53_2 rfl) ?_
                        refine r_u (o_ldR sc4 rfl hR15 (rok 2 he15 (by decide))) ?_
                        refine r_c (s_w (o_callL ca35 rfl (wire_Reader_Must.ok b0_ (⟨c_7⟩ : wire_Reader) x15.OK (Sum.inl ra75) hr73) (fun _ _ _ h => h))) ?_
                        refine r_nil ?_
                        obtain rfl := Option.some.inj hm78
                        exact x_sub (K64 _ rfl) ⟨rfl, rfl, rfl, rfl, rfl, trivial⟩ (fun _ h => st_pk 5 [0, 1, 2, 3, 4] (by decide) h)
                      · have hm78 := sm_r hm74
                        refine c_reg ?_
                        refine r_u (o_mv rfl) ?_
                        refine r_u (o_ld 2 sc50 rfl rfl rfl) ?_
                        refine r_u (o_mv rfl) ?_
                        refine r_u (o_ix (sz := 3) Try.underlying50 (fun _ => by kernel_rfl) rfl rfl hv15 hi15) ?_
                        refine r_u (o_fa fa53_2 rfl) ?_
                        refine r_u (o_ldR sc4 rfl hR15 (rok 2 he15 (by decide))) ?_
                        obtain rfl := Option.some.inj hm78
                        try dsimp only at hm63
                        obtain rfl := Option.some.inj hm63
                        try dsimp only at hm50
                        obtain rfl := Option.some.inj hm50
                        try dsimp only at hm37
                        obtain rfl := Option.some.inj hm37
                        try dsimp only at hm20
                        obtain rfl := Option.some.inj hm20
                        try dsimp only at hm4
                        obtain rfl := Option.some.inj hm4
                        exact r_sw (s_w (o_callR ca35 rfl (wire_Reader_Must.ok b0_ (⟨c_7⟩ : wire_Reader) x15.OK (Sum.inr (rn76, ro77)) hr73) (by rintro _ _ _ ⟨rfl, rfl⟩; exact (px_st (fun _ h => st_pk 5 [0, 1, 2, 3, 4] (by decide) h) (px_of (Le.refl _) (.inr ⟨_, rfl, _, rfl, g9, rfl, rfl⟩)))))) (fun _ _ _ _ h => h.elim)
    · have hm14 := iff_ hm11 h13
      refine c_exit (x_exit (ks' := _) rfl ?_)
      obtain rfl := Option.some.inj hm14
      exact x_sub (K5 _ rfl g9) trivial (fun _ h => st_pk 5 [0, 1, 2, 3, 4] (by decide) h)

end Go.Proofs.Ytgnpffbgfmeinaa
