import Derived.Test.YthngfieikhillaaFacts
import Derived.Test.YthngfieikhillaaHwU
set_option linter.unusedVariables false
set_option linter.unusedSectionVars false
set_option linter.unusedSimpArgs false
set_option maxRecDepth 100000
set_option maxHeartbeats 8000000
namespace Go.Proofs.Ythngfieikhillaa
open Go Go.Proofs.Ythngfieikhillaa.Hw
theorem noEsc (v : Value) (w : World) : (callFunc 130 #[v]).run Try.prog w = .ok (.value v) w := by
  rw [run_callFunc_extern Try.func130 (by kernel_rfl) (by kernel_rfl) (by kernel_rfl) (e := Extern.AbiNoEscape.same) (by kernel_rfl), Lib.run_noEscape]
  rfl
theorem infoB : ∃ j, Try.prog.info? 156 = some j ∧ j.size ≠ 0 := ⟨_, rfl, by decide⟩
theorem bld_copyCheck.ok {G R F} (b : Nat) (p v : Value) (hp : p = nl ∨ p = pt b 0) : CO Try.prog 126 [pt b 0] G R (Blk b (.cells (List.toArray [p, v]) 156 (0, 0)) :: F)
    (Ret fun u R' L' => u = .tuple #[] ∧ R' = R ∧ L' = Blk b (.cells (List.toArray [pt b 0, v]) 156 (0, 0)) :: F) := by
  obtain ⟨j, hj, hj0⟩ := infoB
  refine co_ofN (N := 20) Try.func126 rfl rfl ?_
  refine c_seq ?_
  refine c_reg ?_
  refine r_u (o_mv rfl) ?_
  refine r_u (o_nc rfl) ?_
  refine r_u (o_fa fa156_0 rfl) ?_
  refine r_u (o_ld 0 sc154 rfl rfl rfl) ?_
  rcases hp with rfl | rfl
  · refine r_u (o_bin rfl rfl (bP_eqn Try.underlying154)) ?_
    refine r_nil ?_
    refine x_seq ?_
    refine c_tt rfl ?_
    refine c_reg ?_
    refine r_u (o_mv rfl) ?_
    refine r_u (o_mv rfl) ?_
    refine r_u (o_tu 0 Try.underlying154 Try.underlying186 hj hj0 rfl rfl rfl) ?_
    refine r_u (o_same noEsc rfl) ?_
    refine r_u (o_fu 0 Try.underlying186 Try.underlying154 hj rfl rfl (by kernel_rfl)) ?_
    refine r_u (o_nc rfl) ?_
    refine r_u (o_fa fa156_0 rfl) ?_
    refine r_u0 (o_st sc154 rfl rfl rfl rfl rfl rfl) ?_
    refine r_nil ?_
    refine x_end ?_
    exact x_r0 rfl (Le.refl _) ⟨_, rfl, rfl, rfl, rfl⟩
  · refine r_u (o_bin rfl rfl (bP_eqp Try.underlying154)) ?_
    refine r_nil ?_
    refine x_seq ?_
    refine c_ff rfl ?_
    refine c_seq ?_
    refine c_reg ?_
    refine r_u (o_mv rfl) ?_
    refine r_u (o_nc rfl) ?_
    refine r_u (o_fa fa156_0 rfl) ?_
    refine r_u (o_ld 0 sc154 rfl rfl rfl) ?_
    refine r_u (o_mv rfl) ?_
    refine r_u (o_bin rfl rfl (bP_same Try.underlying154 hj)) ?_
    refine r_nil ?_
    refine x_seq ?_
    refine c_ff rfl ?_
    refine c_skip ?_
    refine x_end ?_
    exact x_r0 rfl (Le.refl _) ⟨_, rfl, rfl, rfl, rfl⟩

theorem bld_WriteByte.ok {G R F} (b : Nat) (s : Str) (c : UInt8) (r : Str) (hm : apd 1 s [c] = some r) : CO Try.prog 111 [pt b 0, vY c] G R (Bld 156 5 b s :: F)
    (Ret fun u R' L' => u = .nilIface ∧ R' = R ∧ L' = Bld 156 5 b r :: F) := by
  refine co_ofN (N := 17) Try.func111 rfl rfl ?_
  refine bld_open_cd fun p v hp hv => ?_
  refine c_seq ?_
  refine c_reg ?_
  refine r_u (o_as rfl) ?_
  refine r_nil ?_
  refine x_seq ?_
  refine c_seq ?_
  refine c_reg ?_
  refine r_u (o_mv rfl) ?_
  refine r_c (s_w (o_call ca126 rfl (bld_copyCheck.ok b p v hp))) ?_
  refine r_nil ?_
  refine x_seq ?_
  refine c_seq ?_
  refine c_reg ?_
  refine r_u (o_mv rfl) ?_
  refine r_u (o_mv rfl) ?_
  refine r_u (o_nc rfl) ?_
  refine r_u (o_fa fa156_1 rfl) ?_
  refine r_u (o_ld 0 sc45 rfl rfl rfl) ?_
  refine r_u (o_mv rfl) ?_
  refine r_sw (s_w (o_bsl (en := eY) (sz := 1) (e := 5) (cs := [vY c]) (r := [c]) rfl (fun _ => by kernel_rfl) rfl (by decide) rfl (fun _ => rfl))) ?_
  rintro v2 _ _ _ ⟨rfl, rfl⟩
  refine rl_st (fun _ h => st_pk 3 [2, 0, 1] (by decide) h) ?_
  refine r_sw (s_w (o_ap (sz := 1) (bytes := 1) 0 Try.underlying45 rfl rfl rfl rfl rfl (by decide) (by decide) (fun _ _ _ h => by simp at h; subst h; rfl) (fun _ => rfl) rfl rfl rfl rfl (Nat.succ_pos _) hm)) ?_
  rintro v3 _ _ _ ⟨rfl, rfl⟩
  refine r_u (o_nc rfl) ?_
  refine r_u (o_fa fa156_1 rfl) ?_
  refine rl_st (fun _ h => st_pk 3 [2, 0] (by decide) h) ?_
  refine r_u0 (o_stS 1 sc45 rfl rfl rfl rfl rfl rfl) ?_
  refine r_nil ?_
  refine x_seq ?_
  refine c_seq ?_
  refine c_reg ?_
  refine r_u (o_as rfl) ?_
  refine r_nil ?_
  refine x_seq ?_
  refine c_ret ?_
  refine ex_st (fun _ h => bld_close (.inr rfl) (fun e => by unfold apd at hm; split at hm <;> simp_all) h) ?_
  exact x_r1 rfl (rv_t rfl) (Le.refl _) ⟨_, rfl, rfl, rfl, rfl⟩

theorem bld_String.ok {G R F} (b : Nat) (s : Str) : CO Try.prog 112 [pt b 0] G R (Bld 156 5 b s :: F)
    (Ret fun u R' L' => u = vS s ∧ R' = R ∧ L' = F) := by
  refine co_ofN (N := 14) Try.func112 rfl rfl ?_
  refine bld_open_cd fun p v hp hv => ?_
  refine c_seq ?_
  refine c_reg ?_
  refine r_u (o_as rfl) ?_
  refine r_nil ?_
  refine x_seq ?_
  refine c_seq ?_
  by_cases hs : s = []
  · obtain rfl := hv hs
    subst hs
    refine c_any mixed (effs := []) (V := []) ?_
    refine stage_ext [(0, pt b 0), (1, pt b 0), (2, pt b 1), (3, .slice none 0 0), (4, nl), (5, pt b 0), (6, pt b 0), (7, pt b 1), (8, .slice none 0 0), (9, vI 0), (10, vS []), (11, vS [])] rfl ?_
    refine stage rfl rfl rfl rfl [0, 1, 3, 7, 15, 0, 32, 96, 224, 480, 1023, 2047] [0, 1, 2, 3, 4, 5, 6, 7, 8, 9, 10, 11] [] rfl rfl rfl (qc rfl rfl (s_u (o_mv rfl)) (qc rfl rfl (s_u (o_nc rfl)) (qc rfl rfl (s_u (o_fa fa156_1 rfl)) (qc rfl rfl (s_u (o_ld 0 sc45 rfl rfl rfl)) (qc rfl rfl (s_u (o_sdn rfl)) (qc rfl rfl (s_u (o_mv rfl)) (qc rfl rfl (s_u (o_nc rfl)) (qc rfl rfl (s_u (o_fa fa156_1 rfl)) (qc rfl rfl (s_u (o_ld 0 sc45 rfl rfl rfl)) (qc rfl rfl (s_u (o_lenN Try.underlying45 rfl)) (qc rfl rfl (s_u (o_usn rfl rfl)) (qc rfl rfl (s_u (o_as rfl)) qn)))))))))))) en ?_
    intro _
    refine ex_sub (E' := [(2, vS [])]) ⟨rfl, trivial⟩ ?_
    refine x_seq ?_
    refine c_ret ?_
    refine ex_st (fun _ h => st_pk 2 [] (by decide) h) ?_
    exact x_r1 rfl (rv_t rfl) (Le.refl _) ⟨_, rfl, rfl, rfl, rfl⟩
  · refine c_any mixed (effs := [10]) (V := []) ?_
    refine stage_ext [(0, pt b 0), (1, pt b 0), (2, pt b 1), (3, v), (4, pt (sb v) 0), (5, pt b 0), (6, pt b 0), (7, pt b 1), (8, v), (9, vI s.length)] rfl ?_
    refine stage_st (fun _ h => st_pk 2 [1, 0] (by decide) h) ?_
    refine stage rfl rfl rfl rfl [0, 1, 3, 7, 15, 0, 32, 96, 224, 480, 1023, 2047] [0, 1, 2, 3, 4, 5, 6, 7, 8, 9] [10] rfl rfl rfl (qc rfl rfl (s_u (o_mv rfl)) (qc rfl rfl (s_u (o_nc rfl)) (qc rfl rfl (s_u (o_fa fa156_1 rfl)) (qc rfl rfl (s_u (o_ld 1 sc45 rfl rfl rfl)) (qc rfl rfl (s_u (o_sd 0 rfl rfl hs)) (qc rfl rfl (s_u (o_mv rfl)) (qc rfl rfl (s_u (o_nc rfl)) (qc rfl rfl (s_u (o_fa fa156_1 rfl)) (qc rfl rfl (s_u (o_ld 1 sc45 rfl rfl rfl)) (qc rfl rfl (s_u (o_lenO 0 Try.underlying45 rfl rfl)) qn)))))))))) ?_ (fun h => absurd h (by decide))
    refine ec (eo_u rfl (s_u (o_us Try.underlying179 (by kernel_rfl) rfl rfl rfl hs)) (Le.refl _) ?_) en
    refine stage_ext [(11, vS s)] rfl ?_
    refine stage rfl rfl rfl rfl [0, 1, 3, 7, 15, 0, 32, 96, 224, 480, 1023, 2047] [11] [] rfl rfl rfl (qc rfl rfl (s_u (o_as rfl)) qn) en ?_
    intro _
    refine ex_sub (E' := [(2, vS s)]) ⟨rfl, trivial⟩ ?_
    refine x_seq ?_
    refine c_ret ?_
    refine ex_st (fun _ h => st_pk 1 [] (by decide) h) ?_
    exact x_r1 rfl (rv_t rfl) (Le.refl _) ⟨_, rfl, rfl, rfl, rfl⟩
theorem catch_pan {G : World} {R : PH} {L : List HP} {b : Nat} {n x : Int} {w : World} (hs : St G R (Blk b (.cells (List.toArray [vI x]) 33 (0, 0)) :: L) w) :
    CallsD Try.prog 71 #[pt b 0] (.panicking (pch 112 n)) w fun e u' w' => (∃ v, e = .returned v) ∧ u' = .panicking [{ v := .iface 112 (.agg #[vI n]), recovered := true }] ∧ St G R (Blk b (.cells (List.toArray [vI n]) 33 (0, 0)) :: L) w' := by
  refine callsD_of_wpS Try.func71 rfl fun c₀ cs hu => ?_
  apply wpS_seq
  refine wpS_rec (v := .iface 112 (.agg #[vI n])) (cs' := { c₀ with mode := .panicking [{ v := .iface 112 (.agg #[vI n]), recovered := true }] } :: cs) (by simp [recoverD, hu, pch]) ?_
  refine wpS_cd (N := 12) (E := [(4, .iface 112 (.agg #[vI n])), (0, pt b 0)]) (C := fun u R' L' => u = .tuple #[] ∧ R' = R ∧ L' = Blk b (.cells (List.toArray [vI n]) 33 (0, 0)) :: L) ?_ ((Fr.enter [pt b 0] 12).put (by simp) _) hs ?_
  · refine c_blk ?_
    refine c_seq ?_
    refine c_reg ?_
    refine r_u (o_bin (v := vB false) rfl rfl (fun _ _ _ => by kernel_rfl)) ?_
    refine r_nil ?_
    refine x_seq ?_
    refine c_ff rfl ?_
    refine c_seq ?_
    refine c_reg ?_
    refine r_u (o_ta (v := .tuple #[.agg #[vI n], .bool true]) rfl (fun _ => by kernel_rfl)) ?_
    refine r_u (o_ext rfl rfl) ?_
    refine r_u (o_ext rfl rfl) ?_
    refine r_nil ?_
    refine x_seq ?_
    refine c_tt rfl ?_
    refine c_seq ?_
    refine c_reg ?_
    refine r_new (o_al ze112) fun b2 => ?_
    refine r_u0 (o_stn ag112 rfl rfl rfl rfl rfl rfl rfl) ?_
    refine r_nil ?_
    refine x_seq ?_
    refine c_reg ?_
    refine r_u (o_fa fa112_0 rfl) ?_
    refine r_u (o_ld 0 sc33 rfl rfl rfl) ?_
    refine rl_st (fun _ h => st_pk 2 [1, 0] (by decide) h) ?_
    refine r_u0 (o_st sc33 rfl rfl rfl rfl rfl rfl) ?_
    refine r_nil ?_
    refine x_blk ?_
    refine x_end ?_
    refine ex_st (fun _ h => st_pk 2 [0] (by decide) h) ?_
    exact x_r0 rfl (Le.refl _) ⟨_, rfl, rfl, rfl, rfl⟩
  · rintro v w' R' L' _ ⟨rfl, rfl, rfl⟩ hst
    exact ⟨⟨_, rfl⟩, rfl, hst⟩
theorem catch_no {G : World} {R : PH} {L : List HP} {b : Nat} {w : World} (hs : St G R L w) :
    CallsD Try.prog 71 #[pt b 0] .returning w fun e u' w' => (∃ v, e = .returned v) ∧ u' = .returning ∧ St G R L w' := by
  refine callsD_of_wpS Try.func71 rfl fun c₀ cs hu => ?_
  apply wpS_seq
  refine wpS_rec0 (by simp [recoverD, hu]) ?_
  have e0 : c₀ = { c₀ with mode := .returning } := by cases c₀; simp_all
  refine wpS_cd (N := 12) (E := [(4, .nilIface), (0, pt b 0)]) (C := fun u R' L' => u = .tuple #[] ∧ R' = R ∧ L' = L) (u1 := .returning) ?_ ((Fr.enter [pt b 0] 12).put (by simp) _) hs ?_ e0
  · refine c_blk ?_
    refine c_seq ?_
    refine c_reg ?_
    refine r_u (o_binc (r := vB true) rfl rfl (fun _ => by kernel_rfl)) ?_
    refine r_nil ?_
    refine x_seq ?_
    refine c_tt rfl ?_
    refine c_reg ?_
    refine r_u (o_as rfl) ?_
    refine r_nil ?_
    refine x_blk ?_
    refine x_end ?_
    exact x_r0 rfl (Le.refl _) ⟨_, rfl, rfl, rfl, rfl⟩
  · rintro v w' R' L' _ ⟨rfl, rfl, rfl⟩ hst
    exact ⟨⟨_, rfl⟩, rfl, hst⟩

/-- The end of wire.Read, behind a deferred call that found nothing. -/
theorem read_leaves {G : World} {R : PH} {M : List HP} {b : Nat} {n : Int} {w : World} {tmps : Array Value} {K : Ending → PH → List HP → Prop} {q : HP}
    (ht : tmps[4]? = some (pt b 0)) (hs : St G R (Blk b (.cells (List.toArray [vI n]) 33 (0, 0)) :: q :: M) w) (hK : K (.returned (vI n)) R M) :
    Leaves Try.prog Try.f36 tmps (Post G R K) [{ target := .fn (.func 71) #[pt b 0], args := #[] }] .returning w := by
  refine leaves_cons (f := 71) (args := #[pt b 0]) (by simp) (by simp [go_sem]) ?_
  refine (catch_no hs).mono ?_
  rintro e u' w'' ⟨⟨v, rfl⟩, rfl, h⟩
  have hb := h.blk (i := 0) rfl
  have hc : w''.cell? ⟨b, 0, none⟩ = some (vI n) := by simp [World.cell?, hb]
  have ht' : tmps.getD 4 undef = pt b 0 := by simp [Array.getD_eq_getD_getElem?, ht]
  refine ⟨vI n, ?_, R, M, Le.refl _, hK, h.drop.drop⟩
  simp [results, Try.results36, ht, ht', go_sem, hc]
theorem read_panics {G : World} {R : PH} {M : List HP} {b : Nat} {x n : Int} {w : World} {tmps : Array Value} {K : Ending → PH → List HP → Prop} {q : HP}
    (ht : tmps[4]? = some (pt b 0)) (hs : St G R (Blk b (.cells (List.toArray [vI x]) 33 (0, 0)) :: q :: M) w) (hK : K (.returned (vI n)) R M) :
    Leaves Try.prog Try.f36 tmps (Post G R K) [{ target := .fn (.func 71) #[pt b 0], args := #[] }] (.panicking (pch 112 n)) w := by
  refine leaves_cons (f := 71) (args := #[pt b 0]) (by simp) (by simp [go_sem]) ?_
  refine (catch_pan (n := n) hs).mono ?_
  rintro e u' w'' ⟨⟨v, rfl⟩, rfl, h⟩
  have hb := h.blk (i := 0) rfl
  have hc : w''.cell? ⟨b, 0, none⟩ = some (vI n) := by simp [World.cell?, hb]
  have ht' : tmps.getD 4 undef = pt b 0 := by simp [Array.getD_eq_getD_getElem?, ht]
  refine ⟨vI n, ?_, R, M, Le.refl _, hK, h.drop.drop⟩
  simp [results, Try.results36, ht, ht', go_sem, hc]

theorem wire_Read.okL {G : World} {R : PH} {A M : List HP} {F : List HP} {s s' : Str} {fc : Nat} {caps : List Value}
    (hc : Ca Try.prog fc)
    (h : ∀ b F, CO Try.prog fc (pt b 0 :: caps) G R (Blk b (.cells (List.toArray [vS s]) 114 (0, 0)) :: (A ++ F)) (PRet 112 (fun u R' L' => u = .tuple #[] ∧ R' = R ∧ L' = Blk b (.cells (List.toArray [vS s']) 114 (0, 0)) :: (M ++ F)) fun _ _ _ => False)) :
    CO Try.prog 36 [vS s, .func (.func fc) #[] caps.toArray] G R (A ++ F) (Ret fun u R' L' => u = vI (if s' == [] then 0 else 5) ∧ R' = R ∧ L' = M ++ F) := by
  intro w hs
  have hmf : ∀ (fn : Fn) (first cap : Array Value) (w : World), (Instr.makeFunc fn first cap).run Try.prog w = .ok (.func fn first cap) w := fun _ _ _ _ => rfl
  have hst : St G R (Blk (w.heap.size + 1) (.cells (List.toArray [vS s]) 114 (0, 0)) :: Blk w.heap.size (.cells (List.toArray [vI 0]) 33 (0, 0)) :: (A ++ F)) ((w.alloc (.cells #[Value.int .i64 0] 33)).alloc (.cells #[vS s] 114)) := by
    have h1 := hs.alloc (.cells #[Value.int .i64 0] 33)
    have h2 := h1.alloc (.cells #[vS s] 114)
    simpa [vI] using h2
  have hst2 := st_mid hst
  have hcall := h (w.heap.size + 1) _ _ hst2
  unfold vS at *
  go_enter_defers Try.func36, Try.ntmps36
  go_wp2
  rw [hc]
  simp only [Oper.upon]
  refine hcall.mono ?_
  rintro e w' ⟨R', L', hR, hq | ⟨n, rfl, hn⟩, hst'⟩
  case inr => exact hn.elim
  obtain ⟨v, rfl, rfl, rfl, rfl⟩ := hq
  have st3 := st_mid' hst'
  have hb0 := st3.blk (i := 0) rfl
  have hb1 := st3.blk (i := 1) rfl
  have hc1 : w'.cell? ⟨w.heap.size + 1, 0, none⟩ = some (.string ⟨s'.toArray⟩) := by simp [World.cell?, hb1]
  have hc0 : w'.cell? ⟨w.heap.size, 0, none⟩ = some (.int .i64 0) := by simp [World.cell?, hb0, vI]
  have hf0 : w'.frozen? ⟨w.heap.size, 0, none⟩ = false := by simp [World.frozen?, hb0]
  by_cases hs' : s' = []
  · subst hs'
    go_wp2
    exact read_leaves rfl (st3.upd (upd_set hb0)) ⟨_, rfl, rfl, rfl, rfl⟩
  · have hne : (s' == []) = false := by simpa using hs'
    have hie : s'.isEmpty = false := by simpa using hs'
    go_wp2
    all_goals first | exact read_leaves rfl (st3.upd (upd_set hb0)) ⟨_, rfl, by simp, rfl, rfl⟩ | exact read_leaves rfl (st3.upd (upd_set hb0)) ⟨_, rfl, by simp [hne], rfl, rfl⟩ | (exfalso; simp_all; done)
theorem wire_Read.okR {G : World} {R : PH} {A M : List HP} {F : List HP} {s : Str} {cs : List Value} {n0 : Int} {fc : Nat} {caps : List Value}
    (hc : Ca Try.prog fc)
    (h : ∀ b F, CO Try.prog fc (pt b 0 :: caps) G R (Blk b (.cells (List.toArray [vS s]) 114 (0, 0)) :: (A ++ F)) (PRet 112 (fun _ _ _ => False) fun n R' L' => n = n0 ∧ R' = R ∧ L' = Blk b (.cells (List.toArray cs) 114 (0, 0)) :: (M ++ F))) :
    CO Try.prog 36 [vS s, .func (.func fc) #[] caps.toArray] G R (A ++ F) (Ret fun u R' L' => u = vI n0 ∧ R' = R ∧ L' = M ++ F) := by
  intro w hs
  have hmf : ∀ (fn : Fn) (first cap : Array Value) (w : World), (Instr.makeFunc fn first cap).run Try.prog w = .ok (.func fn first cap) w := fun _ _ _ _ => rfl
  have hst : St G R (Blk (w.heap.size + 1) (.cells (List.toArray [vS s]) 114 (0, 0)) :: Blk w.heap.size (.cells (List.toArray [vI 0]) 33 (0, 0)) :: (A ++ F)) ((w.alloc (.cells #[Value.int .i64 0] 33)).alloc (.cells #[vS s] 114)) := by
    have h1 := hs.alloc (.cells #[Value.int .i64 0] 33)
    have h2 := h1.alloc (.cells #[vS s] 114)
    simpa [vI] using h2
  have hst2 := st_mid hst
  have hcall := h (w.heap.size + 1) _ _ hst2
  unfold vS at *
  go_enter_defers Try.func36, Try.ntmps36
  go_wp2
  rw [hc]
  simp only [Oper.upon]
  refine hcall.mono ?_
  rintro e w' ⟨R', L', hR, ⟨v, rfl, hn⟩ | ⟨n, rfl, rfl, rfl, rfl⟩, hst'⟩
  case inl => exact hn.elim
  exact read_panics rfl (st_mid' hst') ⟨_, rfl, rfl, rfl, rfl⟩
structure wire_Reader where
  s : Str
  deriving DecidableEq, Inhabited
def wire_Reader.c (x : wire_Reader) : List _root_.Go.Value := [vS x.s]
structure api_View where
  V : UInt64
  Primary : Int
  PLife : UInt64
  Backup : Int
  BLife : UInt64
  Epoch : UInt64
  deriving DecidableEq, Inhabited
def api_View.c (x : api_View) : List _root_.Go.Value := [vW x.V, vI x.Primary, vW x.PLife, vI x.Backup, vW x.BLife, vW x.Epoch]
structure api_Promise where
  OK : Bool
  V : UInt64
  Most : UInt64
  Ballot : UInt64
  Value : api_View
  Chosen : api_View
  deriving DecidableEq, Inhabited
def api_Promise.c (x : api_Promise) : List _root_.Go.Value := [vB x.OK, vW x.V, vW x.Most, vW x.Ballot, vW x.Value.V, vI x.Value.Primary, vW x.Value.PLife, vI x.Value.Backup, vW x.Value.BLife, vW x.Value.Epoch, vW x.Chosen.V, vI x.Chosen.Primary, vW x.Chosen.PLife, vI x.Chosen.Backup, vW x.Chosen.BLife, vW x.Chosen.Epoch]
structure api_Op where
  Kind : Int
  Key : Str
  Value : Str
  TTL : UInt64
  Version : UInt64
  deriving DecidableEq, Inhabited
def api_Op.c (x : api_Op) : List _root_.Go.Value := [vI x.Kind, vS x.Key, vS x.Value, vW x.TTL, vW x.Version]
structure api_Record where
  Seq : UInt64
  Now : UInt64
  Session : UInt64
  Num : UInt64
  Op : api_Op
  deriving DecidableEq, Inhabited
def api_Record.c (x : api_Record) : List _root_.Go.Value := [vW x.Seq, vW x.Now, vW x.Session, vW x.Num, vI x.Op.Kind, vS x.Op.Key, vS x.Op.Value, vW x.Op.TTL, vW x.Op.Version]
structure api_Piece where
  N : Int
  Of : Int
  Data : Str
  Sum : Str
  Whole : Str
  deriving DecidableEq, Inhabited
def api_Piece.c (x : api_Piece) : List _root_.Go.Value := [vI x.N, vI x.Of, vS x.Data, vS x.Sum, vS x.Whole]
structure api_Reply where
  E : Int
  Value : Str
  Version : UInt64
  deriving DecidableEq, Inhabited
def api_Reply.c (x : api_Reply) : List _root_.Go.Value := [vI x.E, vS x.Value, vW x.Version]
structure api_Say where
  Kind : Int
  View : api_View
  Value : api_View
  Ballot : UInt64
  Promise : api_Promise
  Seq : UInt64
  Done : UInt64
  Life : UInt64
  Records : List api_Record
  Piece : api_Piece
  Digest : Str
  Sums : List Str
  Session : UInt64
  Num : UInt64
  Op : api_Op
  Reply : api_Reply
  deriving DecidableEq, Inhabited
structure api_Say.G where
  Records : _root_.Go.Value
  Sums : _root_.Go.Value

instance : Inhabited api_Say.G := ⟨⟨nl, nl⟩⟩
def api_Say.fl (b : Nat) (x : api_Say) (g : api_Say.G) : List HP := [Bk b 37 [vI x.Kind, vW x.View.V, vI x.View.Primary, vW x.View.PLife, vI x.View.Backup, vW x.View.BLife, vW x.View.Epoch, vW x.Value.V, vI x.Value.Primary, vW x.Value.PLife, vI x.Value.Backup, vW x.Value.BLife, vW x.Value.Epoch, vW x.Ballot, vB x.Promise.OK, vW x.Promise.V, vW x.Promise.Most, vW x.Promise.Ballot, vW x.Promise.Value.V, vI x.Promise.Value.Primary, vW x.Promise.Value.PLife, vI x.Promise.Value.Backup, vW x.Promise.Value.BLife, vW x.Promise.Value.Epoch, vW x.Promise.Chosen.V, vI x.Promise.Chosen.Primary, vW x.Promise.Chosen.PLife, vI x.Promise.Chosen.Backup, vW x.Promise.Chosen.BLife, vW x.Promise.Chosen.Epoch, vW x.Seq, vW x.Done, vW x.Life, g.Records, vI x.Piece.N, vI x.Piece.Of, vS x.Piece.Data, vS x.Piece.Sum, vS x.Piece.Whole, vS x.Digest, g.Sums, vW x.Session, vW x.Num, vI x.Op.Kind, vS x.Op.Key, vS x.Op.Value, vW x.Op.TTL, vW x.Op.Version, vI x.Reply.E, vS x.Reply.Value, vW x.Reply.Version], OwS true 89 9 api_Record.c g.Records x.Records, OwS true 9 1 eS g.Sums x.Sums]
def api_Say.op (g : api_Say.G) : Nat → api_Say → HP := fun b x => star (api_Say.fl b x g)
def api_Say.ro (R : PH) (x : api_Say) (g : api_Say.G) : Prop := (RoS R g.Records 9 api_Record.c x.Records) ∧ (RoS R g.Sums 1 (fun x => [vS x]) x.Sums)
structure wire_bad where
  e : Int
  deriving DecidableEq, Inhabited
def wire_bad.c (x : wire_bad) : List _root_.Go.Value := [vI x.e]
structure hawthornlaw21_Act where
  Kind : Int
  From : Int
  Off : Int
  deriving DecidableEq, Inhabited
def hawthornlaw21_Act.c (x : hawthornlaw21_Act) : List _root_.Go.Value := [vI x.Kind, vI x.From, vI x.Off]
structure api_Heard where
  Num : UInt64
  Epoch : UInt64
  V : UInt64
  Seq : UInt64
  Reply : api_Reply
  Began : Int
  Ended : Int
  deriving DecidableEq, Inhabited
def api_Heard.c (x : api_Heard) : List _root_.Go.Value := [vW x.Num, vW x.Epoch, vW x.V, vW x.Seq, vI x.Reply.E, vS x.Reply.Value, vW x.Reply.Version, vI x.Began, vI x.Ended]
structure client_Client where
  n : Int
  l : List api_Op
  at_ : Int
  to : Int
  since : Int
  began : Int
  under : Bool
  heard : List api_Heard
  epochs : List UInt64
  deriving DecidableEq, Inhabited
structure client_Client.G where
  l : _root_.Go.Value
  heard : _root_.Go.Value
  epochs : _root_.Go.Value

instance : Inhabited client_Client.G := ⟨⟨nl, nl, nl⟩⟩
def client_Client.fl (b : Nat) (x : client_Client) (g : client_Client.G) : List HP := [Bk b 97 [vI x.n, g.l, vI x.at_, vI x.to, vI x.since, vI x.began, vB x.under, g.heard, g.epochs], OwS true 32 5 api_Op.c g.l x.l, OwS true 65 9 api_Heard.c g.heard x.heard, OwS true 22 1 eW g.epochs x.epochs]
def client_Client.op (g : client_Client.G) : Nat → client_Client → HP := fun b x => star (client_Client.fl b x g)
def client_Client.ro (R : PH) (x : client_Client) (g : client_Client.G) : Prop := (RoS R g.l 5 api_Op.c x.l) ∧ (RoS R g.heard 9 api_Heard.c x.heard) ∧ (RoS R g.epochs 1 (fun x => [vW x]) x.epochs)
structure api_Packet where
  From : Int
  To : Int
  S : Str
  Spoilt : Bool
  deriving DecidableEq, Inhabited
def api_Packet.c (x : api_Packet) : List _root_.Go.Value := [vI x.From, vI x.To, vS x.S, vB x.Spoilt]
theorem clone48.gen {G R} {F : List HP} {v : Value} {l s : List api_Op} (hx : ∀ w, St G R F w → Row w 5 api_Op.c v l) (hb : apd 56 [] l = some s) : CO Try.prog 48 [v] G R F
    (Ret fun u R' L' => R' = R ∧ L' = OwS true 32 5 api_Op.c u s :: F) := by
  refine co_ofN (N := 8) Try.func48 rfl rfl ?_
  refine cd_ex (P := fun p : Option Addr × Nat => v = .slice p.1 l.length p.2 ∧ (p.1 = none → l = [])) (Rf := fun _ => R) (Lf := fun _ => F) (fun w h => by obtain ⟨a, c, h1, h2⟩ := (hx w h).hd; exact ⟨(a, c), ⟨h1, h2⟩, h⟩) fun p hp => ?_
  obtain ⟨a, c⟩ := p
  obtain ⟨hv, ha⟩ := hp
  dsimp only at hv ha
  refine c_seq ?_
  refine c_reg ?_
  refine r_u (o_as rfl) ?_
  refine r_nil ?_
  refine x_seq ?_
  refine c_seq ?_
  refine c_seq ?_
  refine c_reg ?_
  refine r_u (o_mv rfl) ?_
  subst hv
  refine r_u (o_bin rfl rfl (bSl_eq (e := 32) Try.underlying48)) ?_
  refine r_nil ?_
  refine x_seq ?_
  cases a with
  | none =>
    obtain rfl := ha rfl
    obtain rfl : s = [] := by unfold apd at hb; split at hb <;> simp at hb; exact hb
    refine c_tt rfl ?_
    refine c_seq ?_
    refine c_reg ?_
    refine r_u (o_as rfl) ?_
    refine r_nil ?_
    refine x_seq ?_
    refine c_ret ?_
    refine ex_st (fun _ h => st_nil (ap := true) (T := 32) (sz := 5) (en := api_Op.c) h) ?_
    exact x_r1 rfl (rv_t rfl) (Le.refl _) ⟨_, rfl, rfl, rfl⟩
  | some a =>
    refine c_ff rfl ?_
    refine c_skip ?_
    refine x_seq ?_
    refine c_seq ?_
    refine c_reg ?_
    refine r_sw (s_w (o_bsl (en := api_Op.c) (sz := 5) (e := 32) (cs := []) (r := []) rfl (fun _ => by kernel_rfl) rfl (by decide) rfl (fun _ => rfl))) ?_
    rintro v1 R _ _ ⟨rfl, rfl⟩
    refine r_u (o_mv rfl) ?_
    refine r_sw (s_w (o_apG (sz := 5) (bytes := 56) Try.underlying48 rfl rfl rfl rfl rfl (by decide) (by decide) (fun _ _ _ h => by simp [api_Op.c] at h; rcases h with rfl | rfl | rfl | rfl | rfl <;> rfl) (fun _ => rfl) rfl rfl rfl (fun w h => hx w (h.drop)) hb)) ?_
    rintro v2 R _ _ ⟨rfl, rfl⟩
    refine r_u (o_as rfl) ?_
    refine r_nil ?_
    refine x_seq ?_
    refine c_ret ?_
    exact x_r1 rfl (rv_t rfl) (Le.refl _) ⟨_, rfl, rfl, rfl⟩
theorem clone48.okO {G R} {F F' : List HP} {ap : Bool} {T : Nat} {v : Value} {l s : List api_Op} (hF : F = OwS ap T 5 api_Op.c v l :: F') (hb : apd 56 [] l = some s) : CO Try.prog 48 [v] G R F
    (Ret fun u R' L' => R' = R ∧ L' = OwS true 32 5 api_Op.c u s :: F) := clone48.gen (fun w h => row_o 0 (by rw [hF]; rfl) w h) hb
theorem clone48.okR {G R} {F : List HP} {v : Value} {l s : List api_Op} (h : RoS R v 5 api_Op.c l) (hb : apd 56 [] l = some s) : CO Try.prog 48 [v] G R F
    (Ret fun u R' L' => R' = R ∧ L' = OwS true 32 5 api_Op.c u s :: F) := clone48.gen (fun w hs => row_r h w hs) hb
theorem clone48.okN {G R} {F : List HP} {s : List api_Op} (hb : apd 56 [] ([] : List api_Op) = some s) : CO Try.prog 48 [.slice none 0 0] G R F
    (Ret fun u R' L' => R' = R ∧ L' = OwS true 32 5 api_Op.c u s :: F) := clone48.gen (fun w _ => row_n w) hb
theorem clone51.gen {G R} {F : List HP} {v : Value} {l s : List api_Heard} (hx : ∀ w, St G R F w → Row w 9 api_Heard.c v l) (hb : apd 80 [] l = some s) : CO Try.prog 51 [v] G R F
    (Ret fun u R' L' => R' = R ∧ L' = OwS true 65 9 api_Heard.c u s :: F) := by
  refine co_ofN (N := 8) Try.func51 rfl rfl ?_
  refine cd_ex (P := fun p : Option Addr × Nat => v = .slice p.1 l.length p.2 ∧ (p.1 = none → l = [])) (Rf := fun _ => R) (Lf := fun _ => F) (fun w h => by obtain ⟨a, c, h1, h2⟩ := (hx w h).hd; exact ⟨(a, c), ⟨h1, h2⟩, h⟩) fun p hp => ?_
  obtain ⟨a, c⟩ := p
  obtain ⟨hv, ha⟩ := hp
  dsimp only at hv ha
  refine c_seq ?_
  refine c_reg ?_
  refine r_u (o_as rfl) ?_
  refine r_nil ?_
  refine x_seq ?_
  refine c_seq ?_
  refine c_seq ?_
  refine c_reg ?_
  refine r_u (o_mv rfl) ?_
  subst hv
  refine r_u (o_bin rfl rfl (bSl_eq (e := 65) Try.underlying62)) ?_
  refine r_nil ?_
  refine x_seq ?_
  cases a with
  | none =>
    obtain rfl := ha rfl
    obtain rfl : s = [] := by unfold apd at hb; split at hb <;> simp at hb; exact hb
    refine c_tt rfl ?_
    refine c_seq ?_
    refine c_reg ?_
    refine r_u (o_as rfl) ?_
    refine r_nil ?_
    refine x_seq ?_
    refine c_ret ?_
    refine ex_st (fun _ h => st_nil (ap := true) (T := 65) (sz := 9) (en := api_Heard.c) h) ?_
    exact x_r1 rfl (rv_t rfl) (Le.refl _) ⟨_, rfl, rfl, rfl⟩
  | some a =>
    refine c_ff rfl ?_
    refine c_skip ?_
    refine x_seq ?_
    refine c_seq ?_
    refine c_reg ?_
    refine r_sw (s_w (o_bsl (en := api_Heard.c) (sz := 9) (e := 65) (cs := []) (r := []) rfl (fun _ => by kernel_rfl) rfl (by decide) rfl (fun _ => rfl))) ?_
    rintro v1 R _ _ ⟨rfl, rfl⟩
    refine r_u (o_mv rfl) ?_
    refine r_sw (s_w (o_apG (sz := 9) (bytes := 80) Try.underlying62 rfl rfl rfl rfl rfl (by decide) (by decide) (fun _ _ _ h => by simp [api_Heard.c] at h; rcases h with rfl | rfl | rfl | rfl | rfl | rfl | rfl | rfl | rfl <;> rfl) (fun _ => rfl) rfl rfl rfl (fun w h => hx w (h.drop)) hb)) ?_
    rintro v2 R _ _ ⟨rfl, rfl⟩
    refine r_u (o_as rfl) ?_
    refine r_nil ?_
    refine x_seq ?_
    refine c_ret ?_
    exact x_r1 rfl (rv_t rfl) (Le.refl _) ⟨_, rfl, rfl, rfl⟩
theorem clone51.okO {G R} {F F' : List HP} {ap : Bool} {T : Nat} {v : Value} {l s : List api_Heard} (hF : F = OwS ap T 9 api_Heard.c v l :: F') (hb : apd 80 [] l = some s) : CO Try.prog 51 [v] G R F
    (Ret fun u R' L' => R' = R ∧ L' = OwS true 65 9 api_Heard.c u s :: F) := clone51.gen (fun w h => row_o 0 (by rw [hF]; rfl) w h) hb
theorem clone51.okR {G R} {F : List HP} {v : Value} {l s : List api_Heard} (h : RoS R v 9 api_Heard.c l) (hb : apd 80 [] l = some s) : CO Try.prog 51 [v] G R F
    (Ret fun u R' L' => R' = R ∧ L' = OwS true 65 9 api_Heard.c u s :: F) := clone51.gen (fun w hs => row_r h w hs) hb
theorem clone51.okN {G R} {F : List HP} {s : List api_Heard} (hb : apd 80 [] ([] : List api_Heard) = some s) : CO Try.prog 51 [.slice none 0 0] G R F
    (Ret fun u R' L' => R' = R ∧ L' = OwS true 65 9 api_Heard.c u s :: F) := clone51.gen (fun w _ => row_n w) hb
theorem clone52.gen {G R} {F : List HP} {v : Value} {l s : List UInt64} (hx : ∀ w, St G R F w → Row w 1 eW v l) (hb : apd 8 [] l = some s) : CO Try.prog 52 [v] G R F
    (Ret fun u R' L' => R' = R ∧ L' = OwS true 22 1 eW u s :: F) := by
  refine co_ofN (N := 8) Try.func52 rfl rfl ?_
  refine cd_ex (P := fun p : Option Addr × Nat => v = .slice p.1 l.length p.2 ∧ (p.1 = none → l = [])) (Rf := fun _ => R) (Lf := fun _ => F) (fun w h => by obtain ⟨a, c, h1, h2⟩ := (hx w h).hd; exact ⟨(a, c), ⟨h1, h2⟩, h⟩) fun p hp => ?_
  obtain ⟨a, c⟩ := p
  obtain ⟨hv, ha⟩ := hp
  dsimp only at hv ha
  refine c_seq ?_
  refine c_reg ?_
  refine r_u (o_as rfl) ?_
  refine r_nil ?_
  refine x_seq ?_
  refine c_seq ?_
  refine c_seq ?_
  refine c_reg ?_
  refine r_u (o_mv rfl) ?_
  subst hv
  refine r_u (o_bin rfl rfl (bSl_eq (e := 22) Try.underlying67)) ?_
  refine r_nil ?_
  refine x_seq ?_
  cases a with
  | none =>
    obtain rfl := ha rfl
    obtain rfl : s = [] := by unfold apd at hb; split at hb <;> simp at hb; exact hb
    refine c_tt rfl ?_
    refine c_seq ?_
    refine c_reg ?_
    refine r_u (o_as rfl) ?_
    refine r_nil ?_
    refine x_seq ?_
    refine c_ret ?_
    refine ex_st (fun _ h => st_nil (ap := true) (T := 22) (sz := 1) (en := eW) h) ?_
    exact x_r1 rfl (rv_t rfl) (Le.refl _) ⟨_, rfl, rfl, rfl⟩
  | some a =>
    refine c_ff rfl ?_
    refine c_skip ?_
    refine x_seq ?_
    refine c_seq ?_
    refine c_reg ?_
    refine r_sw (s_w (o_bsl (en := eW) (sz := 1) (e := 22) (cs := []) (r := []) rfl (fun _ => by kernel_rfl) rfl (by decide) rfl (fun _ => rfl))) ?_
    rintro v1 R _ _ ⟨rfl, rfl⟩
    refine r_u (o_mv rfl) ?_
    refine r_sw (s_w (o_apG (sz := 1) (bytes := 8) Try.underlying67 rfl rfl rfl rfl rfl (by decide) (by decide) (fun _ _ _ h => by simp at h; subst h; rfl) (fun _ => rfl) rfl rfl rfl (fun w h => hx w (h.drop)) hb)) ?_
    rintro v2 R _ _ ⟨rfl, rfl⟩
    refine r_u (o_as rfl) ?_
    refine r_nil ?_
    refine x_seq ?_
    refine c_ret ?_
    exact x_r1 rfl (rv_t rfl) (Le.refl _) ⟨_, rfl, rfl, rfl⟩
theorem clone52.okO {G R} {F F' : List HP} {ap : Bool} {T : Nat} {v : Value} {l s : List UInt64} (hF : F = OwS ap T 1 eW v l :: F') (hb : apd 8 [] l = some s) : CO Try.prog 52 [v] G R F
    (Ret fun u R' L' => R' = R ∧ L' = OwS true 22 1 eW u s :: F) := clone52.gen (fun w h => row_o 0 (by rw [hF]; rfl) w h) hb
theorem clone52.okR {G R} {F : List HP} {v : Value} {l s : List UInt64} (h : RoS R v 1 eW l) (hb : apd 8 [] l = some s) : CO Try.prog 52 [v] G R F
    (Ret fun u R' L' => R' = R ∧ L' = OwS true 22 1 eW u s :: F) := clone52.gen (fun w hs => row_r h w hs) hb
theorem clone52.okN {G R} {F : List HP} {s : List UInt64} (hb : apd 8 [] ([] : List UInt64) = some s) : CO Try.prog 52 [.slice none 0 0] G R F
    (Ret fun u R' L' => R' = R ∧ L' = OwS true 22 1 eW u s :: F) := clone52.gen (fun w _ => row_n w) hb
theorem api_View.eqt24 (d : Nat) (a b : api_View) : EqT Try.prog (d + 1) 24 (.agg (api_View.c a).toArray) (.agg (api_View.c b).toArray) (decide (a = b)) :=
  EqT.st Try.underlying24 Try.stoodInHeld24 (EqF.cons (a := vW a.V) (b := vW b.V) (fun _ => by kernel_rfl) (fun _ => by kernel_rfl) rfl (EqT.W _ Try.underlying22 _ _) <| EqF.cons (a := vI a.Primary) (b := vI b.Primary) (fun _ => by kernel_rfl) (fun _ => by kernel_rfl) rfl (EqT.I _ Try.underlying3 _ _) <| EqF.cons (a := vW a.PLife) (b := vW b.PLife) (fun _ => by kernel_rfl) (fun _ => by kernel_rfl) rfl (EqT.W _ Try.underlying22 _ _) <| EqF.cons (a := vI a.Backup) (b := vI b.Backup) (fun _ => by kernel_rfl) (fun _ => by kernel_rfl) rfl (EqT.I _ Try.underlying3 _ _) <| EqF.cons (a := vW a.BLife) (b := vW b.BLife) (fun _ => by kernel_rfl) (fun _ => by kernel_rfl) rfl (EqT.W _ Try.underlying22 _ _) <| EqF.cons (a := vW a.Epoch) (b := vW b.Epoch) (fun _ => by kernel_rfl) (fun _ => by kernel_rfl) rfl (EqT.W _ Try.underlying22 _ _) <| EqF.nil) (by cases a; cases b; rw [Bool.eq_iff_iff]; simp)
theorem api_View.beq_24 (a b : api_View) : Bop Try.prog .eql 24 (.agg (api_View.c a).toArray) (.agg (api_View.c b).toArray) (vB (decide (a = b))) := EqT.bop Try.eqGuardType24 (api_View.eqt24 9998 a b)
theorem api_View.bne_24 (a b : api_View) : Bop Try.prog .neq 24 (.agg (api_View.c a).toArray) (.agg (api_View.c b).toArray) (vB (!decide (a = b))) := EqT.bon Try.eqGuardType24 (api_View.eqt24 9998 a b)
theorem api_Promise.eqt26 (d : Nat) (a b : api_Promise) : EqT Try.prog (d + 2) 26 (.agg (api_Promise.c a).toArray) (.agg (api_Promise.c b).toArray) (decide (a = b)) :=
  EqT.st Try.underlying26 Try.stoodInHeld26 (EqF.cons (a := vB a.OK) (b := vB b.OK) (fun _ => by kernel_rfl) (fun _ => by kernel_rfl) rfl (EqT.B _ Try.underlying4 _ _) <| EqF.cons (a := vW a.V) (b := vW b.V) (fun _ => by kernel_rfl) (fun _ => by kernel_rfl) rfl (EqT.W _ Try.underlying22 _ _) <| EqF.cons (a := vW a.Most) (b := vW b.Most) (fun _ => by kernel_rfl) (fun _ => by kernel_rfl) rfl (EqT.W _ Try.underlying22 _ _) <| EqF.cons (a := vW a.Ballot) (b := vW b.Ballot) (fun _ => by kernel_rfl) (fun _ => by kernel_rfl) rfl (EqT.W _ Try.underlying22 _ _) <| EqF.cons (a := .agg (api_View.c a.Value).toArray) (b := .agg (api_View.c b.Value).toArray) (fun _ => by kernel_rfl) (fun _ => by kernel_rfl) rfl (api_View.eqt24 (d + 0) a.Value b.Value) <| EqF.cons (a := .agg (api_View.c a.Chosen).toArray) (b := .agg (api_View.c b.Chosen).toArray) (fun _ => by kernel_rfl) (fun _ => by kernel_rfl) rfl (api_View.eqt24 (d + 0) a.Chosen b.Chosen) <| EqF.nil) (by cases a; cases b; rw [Bool.eq_iff_iff]; simp)
theorem api_Promise.beq_26 (a b : api_Promise) : Bop Try.prog .eql 26 (.agg (api_Promise.c a).toArray) (.agg (api_Promise.c b).toArray) (vB (decide (a = b))) := EqT.bop Try.eqGuardType26 (api_Promise.eqt26 9997 a b)
theorem api_Promise.bne_26 (a b : api_Promise) : Bop Try.prog .neq 26 (.agg (api_Promise.c a).toArray) (.agg (api_Promise.c b).toArray) (vB (!decide (a = b))) := EqT.bon Try.eqGuardType26 (api_Promise.eqt26 9997 a b)
theorem api_Piece.eqt29 (d : Nat) (a b : api_Piece) : EqT Try.prog (d + 1) 29 (.agg (api_Piece.c a).toArray) (.agg (api_Piece.c b).toArray) (decide (a = b)) :=
  EqT.st Try.underlying29 Try.stoodInHeld29 (EqF.cons (a := vI a.N) (b := vI b.N) (fun _ => by kernel_rfl) (fun _ => by kernel_rfl) rfl (EqT.I _ Try.underlying3 _ _) <| EqF.cons (a := vI a.Of) (b := vI b.Of) (fun _ => by kernel_rfl) (fun _ => by kernel_rfl) rfl (EqT.I _ Try.underlying3 _ _) <| EqF.cons (a := vS a.Data) (b := vS b.Data) (fun _ => by kernel_rfl) (fun _ => by kernel_rfl) rfl (EqT.S _ Try.underlying9 _ _) <| EqF.cons (a := vS a.Sum) (b := vS b.Sum) (fun _ => by kernel_rfl) (fun _ => by kernel_rfl) rfl (EqT.S _ Try.underlying9 _ _) <| EqF.cons (a := vS a.Whole) (b := vS b.Whole) (fun _ => by kernel_rfl) (fun _ => by kernel_rfl) rfl (EqT.S _ Try.underlying9 _ _) <| EqF.nil) (by cases a; cases b; rw [Bool.eq_iff_iff]; simp)
theorem api_Piece.beq_29 (a b : api_Piece) : Bop Try.prog .eql 29 (.agg (api_Piece.c a).toArray) (.agg (api_Piece.c b).toArray) (vB (decide (a = b))) := EqT.bop Try.eqGuardType29 (api_Piece.eqt29 9998 a b)
theorem api_Piece.bne_29 (a b : api_Piece) : Bop Try.prog .neq 29 (.agg (api_Piece.c a).toArray) (.agg (api_Piece.c b).toArray) (vB (!decide (a = b))) := EqT.bon Try.eqGuardType29 (api_Piece.eqt29 9998 a b)
theorem api_Op.eqt32 (d : Nat) (a b : api_Op) : EqT Try.prog (d + 1) 32 (.agg (api_Op.c a).toArray) (.agg (api_Op.c b).toArray) (decide (a = b)) :=
  EqT.st Try.underlying32 Try.stoodInHeld32 (EqF.cons (a := vI a.Kind) (b := vI b.Kind) (fun _ => by kernel_rfl) (fun _ => by kernel_rfl) rfl (EqT.I _ Try.underlying3 _ _) <| EqF.cons (a := vS a.Key) (b := vS b.Key) (fun _ => by kernel_rfl) (fun _ => by kernel_rfl) rfl (EqT.S _ Try.underlying9 _ _) <| EqF.cons (a := vS a.Value) (b := vS b.Value) (fun _ => by kernel_rfl) (fun _ => by kernel_rfl) rfl (EqT.S _ Try.underlying9 _ _) <| EqF.cons (a := vW a.TTL) (b := vW b.TTL) (fun _ => by kernel_rfl) (fun _ => by kernel_rfl) rfl (EqT.W _ Try.underlying22 _ _) <| EqF.cons (a := vW a.Version) (b := vW b.Version) (fun _ => by kernel_rfl) (fun _ => by kernel_rfl) rfl (EqT.W _ Try.underlying22 _ _) <| EqF.nil) (by cases a; cases b; rw [Bool.eq_iff_iff]; simp)
theorem api_Op.beq_32 (a b : api_Op) : Bop Try.prog .eql 32 (.agg (api_Op.c a).toArray) (.agg (api_Op.c b).toArray) (vB (decide (a = b))) := EqT.bop Try.eqGuardType32 (api_Op.eqt32 9998 a b)
theorem api_Op.bne_32 (a b : api_Op) : Bop Try.prog .neq 32 (.agg (api_Op.c a).toArray) (.agg (api_Op.c b).toArray) (vB (!decide (a = b))) := EqT.bon Try.eqGuardType32 (api_Op.eqt32 9998 a b)
theorem api_Reply.eqt35 (d : Nat) (a b : api_Reply) : EqT Try.prog (d + 1) 35 (.agg (api_Reply.c a).toArray) (.agg (api_Reply.c b).toArray) (decide (a = b)) :=
  EqT.st Try.underlying35 Try.stoodInHeld35 (EqF.cons (a := vI a.E) (b := vI b.E) (fun _ => by kernel_rfl) (fun _ => by kernel_rfl) rfl (EqT.I _ Try.underlying33 _ _) <| EqF.cons (a := vS a.Value) (b := vS b.Value) (fun _ => by kernel_rfl) (fun _ => by kernel_rfl) rfl (EqT.S _ Try.underlying9 _ _) <| EqF.cons (a := vW a.Version) (b := vW b.Version) (fun _ => by kernel_rfl) (fun _ => by kernel_rfl) rfl (EqT.W _ Try.underlying22 _ _) <| EqF.nil) (by cases a; cases b; rw [Bool.eq_iff_iff]; simp)
theorem api_Reply.beq_35 (a b : api_Reply) : Bop Try.prog .eql 35 (.agg (api_Reply.c a).toArray) (.agg (api_Reply.c b).toArray) (vB (decide (a = b))) := EqT.bop Try.eqGuardType35 (api_Reply.eqt35 9998 a b)
theorem api_Reply.bne_35 (a b : api_Reply) : Bop Try.prog .neq 35 (.agg (api_Reply.c a).toArray) (.agg (api_Reply.c b).toArray) (vB (!decide (a = b))) := EqT.bon Try.eqGuardType35 (api_Reply.eqt35 9998 a b)
theorem api_Record.eqt89 (d : Nat) (a b : api_Record) : EqT Try.prog (d + 2) 89 (.agg (api_Record.c a).toArray) (.agg (api_Record.c b).toArray) (decide (a = b)) :=
  EqT.st Try.underlying89 Try.stoodInHeld89 (EqF.cons (a := vW a.Seq) (b := vW b.Seq) (fun _ => by kernel_rfl) (fun _ => by kernel_rfl) rfl (EqT.W _ Try.underlying22 _ _) <| EqF.cons (a := vW a.Now) (b := vW b.Now) (fun _ => by kernel_rfl) (fun _ => by kernel_rfl) rfl (EqT.W _ Try.underlying22 _ _) <| EqF.cons (a := vW a.Session) (b := vW b.Session) (fun _ => by kernel_rfl) (fun _ => by kernel_rfl) rfl (EqT.W _ Try.underlying22 _ _) <| EqF.cons (a := vW a.Num) (b := vW b.Num) (fun _ => by kernel_rfl) (fun _ => by kernel_rfl) rfl (EqT.W _ Try.underlying22 _ _) <| EqF.cons (a := .agg (api_Op.c a.Op).toArray) (b := .agg (api_Op.c b.Op).toArray) (fun _ => by kernel_rfl) (fun _ => by kernel_rfl) rfl (api_Op.eqt32 (d + 0) a.Op b.Op) <| EqF.nil) (by cases a; cases b; rw [Bool.eq_iff_iff]; simp)
theorem api_Record.beq_89 (a b : api_Record) : Bop Try.prog .eql 89 (.agg (api_Record.c a).toArray) (.agg (api_Record.c b).toArray) (vB (decide (a = b))) := EqT.bop Try.eqGuardType89 (api_Record.eqt89 9997 a b)
theorem api_Record.bne_89 (a b : api_Record) : Bop Try.prog .neq 89 (.agg (api_Record.c a).toArray) (.agg (api_Record.c b).toArray) (vB (!decide (a = b))) := EqT.bon Try.eqGuardType89 (api_Record.eqt89 9997 a b)

def wire_fail (a0 : Int) : (Unit) ⊕ (Int × Unit) :=
  Sum.inr (a0, ())
theorem wire_fail.ok {G R F} (a0 : Int) (r : (Unit) ⊕ (Int × Unit)) (hm : wire_fail a0 = r) : CO Try.prog 115 [vI a0] G R (F)
    (PK 112 r (fun (a : Unit) u R' L' => u = .tuple #[] ∧ R' = R ∧ L' = F) (fun n (o : Unit) R' L' => R' = R ∧ L' = F)) := by
  unfold wire_fail at hm
  refine co_ofN (N := 5) Try.func115 rfl rfl ?_
  refine c_reg ?_
  refine r_u (o_mv rfl) ?_
  refine r_u (o_bld [vI a0] rfl (fun _ => by kernel_rfl)) ?_
  refine r_u (o_mi (v := .iface 112 (.agg #[vI a0])) rfl (fun _ => by kernel_rfl)) ?_
  subst hm
  exact r_sw0 (s_w (o_panic rfl (px_st (fun _ h => st_pk 0 [] (by decide) h) (px_of (Le.refl _) (.inr ⟨_, rfl, _, rfl, rfl, rfl⟩))))) (fun _ _ _ _ h => h.elim)

def wire_Reader_Bytes (a0 : wire_Reader) (a1 : Int) : Option ((Str × wire_Reader) ⊕ (Int × wire_Reader)) :=
  Option.bind (if (decide (a1 < 0) || decide ((a0.s.length : Int) < a1)) then lt (wire_fail 4) fun r11 => sm r11 (fun (ra13 : Unit) => some (Sum.inl ())) fun ((rn14, ro15) : Int × Unit) => some (Sum.inr (Sum.inr (rn14, a0))) else some (Sum.inl ())) fun (p0 : Unit ⊕ ((Str × wire_Reader) ⊕ (Int × wire_Reader))) => (match p0 with | Sum.inl q1 => (sl a0.s 0 a1).bind fun s5 => (sl a0.s a1 (a0.s.length : Int)).bind fun s7 => some (Sum.inl (s5, (⟨s7⟩ : wire_Reader))) | Sum.inr r => some r)
theorem wire_Reader_Bytes.ok {G R F} (b0_ : Nat) (a0 : wire_Reader) (a1 : Int) (r : (Str × wire_Reader) ⊕ (Int × wire_Reader)) (hm : wire_Reader_Bytes a0 a1 = some r) : CO Try.prog 78 [pt b0_ 0, vI a1] G R (Bk b0_ 114 (wire_Reader.c a0) :: F)
    (PK 112 r (fun (a : Str × wire_Reader) u R' L' => u = vS a.1 ∧ R' = R ∧ L' = Bk b0_ 114 (wire_Reader.c a.2) :: F) (fun n (o : wire_Reader) R' L' => R' = R ∧ L' = Bk b0_ 114 (wire_Reader.c o) :: F)) := by
  unfold wire_Reader_Bytes at hm
  refine co_ofN (N := 34) Try.func78 rfl rfl ?_
  refine c_seq ?_
  refine c_reg ?_
  refine r_u (o_as rfl) ?_
  refine r_nil ?_
  refine x_seq ?_
  refine c_seq ?_
  refine c_seq ?_
  refine c_reg ?_
  refine r_u (o_mv rfl) ?_
  refine r_u (o_bin rfl rfl (bI_lt a1 0)) ?_
  refine r_u (o_mv rfl) ?_
  refine r_s (s_gf rfl rfl fun g => o_mv rfl) ?_
  refine r_s (s_gf rfl rfl fun g => o_mv rfl) ?_
  refine r_s (s_gf rfl rfl fun g => o_nc (evg rfl g)) ?_
  refine r_s (s_gf rfl rfl fun g => o_fa fa114_0 (evg rfl g)) ?_
  refine r_s (s_gf rfl rfl fun g => o_ld 0 sc9 (evg rfl g) rfl rfl) ?_
  refine r_s (s_gf rfl rfl fun g => o_lenS Try.underlying9 (evg rfl g)) ?_
  refine r_s (s_gf rfl rfl fun g => o_bin (evg rfl g) (evg rfl g) (bI_gt a1 (a0.s.length : Int))) ?_
  refine r_u (o_or rfl rfl) ?_
  refine r_nil ?_
  refine x_seq ?_
  obtain ⟨p0, hp2, hm3⟩ := bs hm
  refine cd_joinS (p := p0) (Ef := fun q1 => [(0, pt b0_ 0), (1, vI a1)]) (Lf := fun q1 => Bk b0_ 114 (wire_Reader.c a0) :: F) (fun q1 hq => ?_) fun K4 => ?_
  · subst hq
    try dsimp only at hm3
    refine x_seq ?_
    refine c_seq ?_
    refine c_reg ?_
    refine r_u (o_mv rfl) ?_
    refine r_u (o_nc rfl) ?_
    refine r_u (o_fa fa114_0 rfl) ?_
    refine r_u (o_ld 0 sc9 rfl rfl rfl) ?_
    refine r_u (o_mv rfl) ?_
    obtain ⟨s5, hs5, hm6⟩ := bs hm3
    clear hm3
    refine r_u (o_slS (i := 0) (j := a1) Try.underlying9 rfl rfl rfl hs5) ?_
    refine r_u (o_as rfl) ?_
    refine r_nil ?_
    refine x_seq ?_
    refine c_seq ?_
    refine c_reg ?_
    refine r_u (o_mv rfl) ?_
    refine r_u (o_mv rfl) ?_
    refine r_u (o_nc rfl) ?_
    refine r_u (o_fa fa114_0 rfl) ?_
    refine r_u (o_ld 0 sc9 rfl rfl rfl) ?_
    refine r_u (o_mv rfl) ?_
    obtain ⟨s7, hs7, hm8⟩ := bs hm6
    clear hm6
    refine r_u (o_slS (i := a1) (j := (a0.s.length : Int)) Try.underlying9 rfl rfl rfl hs7) ?_
    refine r_u (o_nc rfl) ?_
    refine r_u (o_fa fa114_0 rfl) ?_
    refine r_u0 (o_st sc9 rfl rfl rfl rfl rfl rfl) ?_
    refine r_nil ?_
    refine x_seq ?_
    refine c_seq ?_
    refine c_reg ?_
    refine r_u (o_mv rfl) ?_
    refine r_u (o_as rfl) ?_
    refine r_nil ?_
    refine x_seq ?_
    refine c_ret ?_
    obtain rfl := Option.some.inj hm8
    exact x_r1 rfl (rv_t rfl) (Le.refl _) (.inl ⟨_, rfl, _, rfl, rfl, rfl, rfl⟩)
  · refine c_if (b := (decide (a1 < 0) || decide ((a0.s.length : Int) < a1))) rfl (fun h9 => ?_) fun h9 => ?_
    · have hm10 := ift hp2 h9
      clear hp2
      obtain ⟨r11, hr11, hm12⟩ := ltx hm10
      clear hm10
      rcases r11 with ra13 | ⟨rn14, ro15⟩
      · have hm16 := sm_l hm12
        clear hm12
        refine c_reg ?_
        refine r_c (s_w (o_callL ca115 rfl (wire_fail.ok 4 (Sum.inl ra13) hr11) (fun _ _ _ h => h))) ?_
        refine r_nil ?_
        obtain rfl := Option.some.inj hm16
        exact x_sub (K4 _ rfl) ⟨rfl, rfl, trivial⟩ (fun _ h => st_pk 1 [0] (by decide) h)
      · have hm16 := sm_r hm12
        clear hm12
        refine c_reg ?_
        obtain rfl := Option.some.inj hm16
        try dsimp only at hm3
        obtain rfl := Option.some.inj hm3
        exact r_sw (s_w (o_callR ca115 rfl (wire_fail.ok 4 (Sum.inr (rn14, ro15)) hr11) (by rintro _ _ _ ⟨rfl, rfl⟩; exact (px_st (fun _ h => st_pk 1 [0] (by decide) h) (px_of (Le.refl _) (.inr ⟨_, rfl, _, rfl, rfl, rfl⟩)))))) (fun _ _ _ _ h => h.elim)
    · have hm10 := iff_ hp2 h9
      clear hp2
      refine c_skip ?_
      obtain rfl := Option.some.inj hm10
      exact x_sub (K4 _ rfl) ⟨rfl, rfl, trivial⟩ (fun _ h => st_pk 1 [0] (by decide) h)

def wire_Reader_Num_l0  : Nat → UInt64 → Int → Str → Option ((UInt64 × Str) ⊕ ((UInt64 × wire_Reader) ⊕ (Int × wire_Reader)))
  | 0, _, _, _ => none
  | k16 + 1, n_13, s_14, c_15 => if decide (s_14 < 10) then (wire_Reader_Bytes (⟨c_15⟩ : wire_Reader) 1).bind fun r21 => sm r21 (fun (ra23 : Str × wire_Reader) => (gi ra23.1 0).bind fun c27 => Option.bind (if (((s_14 == 9) && decide (1 < c27)) || (decide (0 < s_14) && (c27 == 0))) then lt (wire_fail 6) fun r40 => sm r40 (fun (ra42 : Unit) => some (Sum.inl ())) fun ((rn43, ro44) : Int × Unit) => some (Sum.inr (Sum.inr (Sum.inr (rn43, ra23.2)))) else some (Sum.inl ())) fun (p29 : Unit ⊕ ((UInt64 × Str) ⊕ ((UInt64 × wire_Reader) ⊕ (Int × wire_Reader)))) => (match p29 with | Sum.inl q30 => if 0 ≤ (i64 (7 * s_14)) then if decide (c27 < 128) then some (Sum.inl (n_13 ||| (shWl ((c27 % 128).toUInt64) (i64 (7 * s_14))), ra23.2.s)) else wire_Reader_Num_l0 k16 (n_13 ||| (shWl ((c27 % 128).toUInt64) (i64 (7 * s_14)))) (i64 (s_14 + 1)) ra23.2.s else none | Sum.inr r => some r)) fun ((rn24, ro25) : Int × wire_Reader) => some (Sum.inr (Sum.inr (rn24, ro25))) else some (Sum.inl (n_13, c_15))
def wire_Reader_Num (a0 : wire_Reader) (a1 : UInt64) : Option ((UInt64 × wire_Reader) ⊕ (Int × wire_Reader)) :=
  Option.bind (wire_Reader_Num_l0 11 0 0 a0.s) fun (p0 : (UInt64 × Str) ⊕ ((UInt64 × wire_Reader) ⊕ (Int × wire_Reader))) => (match p0 with | Sum.inl q1 => if decide (a1 < q1.1) then lt (wire_fail 3) fun r7 => sm r7 (fun (ra9 : Unit) => some (Sum.inl (q1.1, (⟨q1.2⟩ : wire_Reader)))) fun ((rn10, ro11) : Int × Unit) => some (Sum.inr (rn10, (⟨q1.2⟩ : wire_Reader))) else some (Sum.inl (q1.1, (⟨q1.2⟩ : wire_Reader))) | Sum.inr r => some r)
theorem wire_Reader_Num.ok {G R F} (b0_ : Nat) (a0 : wire_Reader) (a1 : UInt64) (r : (UInt64 × wire_Reader) ⊕ (Int × wire_Reader)) (hm : wire_Reader_Num a0 a1 = some r) : CO Try.prog 72 [pt b0_ 0, vW a1] G R (Bk b0_ 114 (wire_Reader.c a0) :: F)
    (PK 112 r (fun (a : UInt64 × wire_Reader) u R' L' => u = vW a.1 ∧ R' = R ∧ L' = Bk b0_ 114 (wire_Reader.c a.2) :: F) (fun n (o : wire_Reader) R' L' => R' = R ∧ L' = Bk b0_ 114 (wire_Reader.c o) :: F)) := by
  unfold wire_Reader_Num at hm
  refine co_ofN (N := 45) Try.func72 rfl rfl ?_
  refine c_seq ?_
  refine c_reg ?_
  refine r_u (o_as rfl) ?_
  refine r_nil ?_
  refine x_seq ?_
  refine c_seq ?_
  refine c_reg ?_
  refine r_u (o_as rfl) ?_
  refine r_nil ?_
  refine x_seq ?_
  refine c_seq ?_
  refine c_seq ?_
  refine c_reg ?_
  refine r_u (o_mv rfl) ?_
  refine r_nil ?_
  refine x_seq ?_
  obtain ⟨p0, hp2, hm3⟩ := bs hm
  refine cd_joinS (p := p0) (Ef := fun q1 => [(1, vW a1), (5, vW q1.1)]) (Lf := fun q1 => Bk b0_ 114 [vS q1.2] :: F) (fun q1 hq => ?_) fun K4 => ?_
  · subst hq
    try dsimp only at hm3
    refine x_seq ?_
    refine c_seq ?_
    refine c_seq ?_
    refine c_reg ?_
    refine r_u (o_mv rfl) ?_
    refine r_u (o_mv rfl) ?_
    refine r_u (o_bin rfl rfl (bW_gt q1.1 a1)) ?_
    refine r_nil ?_
    refine x_seq ?_
    refine c_if (b := decide (a1 < q1.1)) rfl (fun h5 => ?_) fun h5 => ?_
    · have hm6 := ift hm3 h5
      clear hm3
      obtain ⟨r7, hr7, hm8⟩ := ltx hm6
      clear hm6
      rcases r7 with ra9 | ⟨rn10, ro11⟩
      · have hm12 := sm_l hm8
        clear hm8
        refine c_reg ?_
        refine r_c (s_w (o_callL ca115 rfl (wire_fail.ok 3 (Sum.inl ra9) hr7) (fun _ _ _ h => h))) ?_
        refine r_nil ?_
        refine x_seq ?_
        refine c_seq ?_
        refine c_reg ?_
        refine r_u (o_mv rfl) ?_
        refine r_u (o_as rfl) ?_
        refine r_nil ?_
        refine x_seq ?_
        refine c_ret ?_
        obtain rfl := Option.some.inj hm12
        exact x_r1 rfl (rv_t rfl) (Le.refl _) (.inl ⟨_, rfl, _, rfl, rfl, rfl, rfl⟩)
      · have hm12 := sm_r hm8
        clear hm8
        refine c_reg ?_
        obtain rfl := Option.some.inj hm12
        exact r_sw (s_w (o_callR ca115 rfl (wire_fail.ok 3 (Sum.inr (rn10, ro11)) hr7) (by rintro _ _ _ ⟨rfl, rfl⟩; exact (px_st (fun _ h => st_pk 1 [0] (by decide) h) (px_of (Le.refl _) (.inr ⟨_, rfl, _, rfl, rfl, rfl⟩)))))) (fun _ _ _ _ h => h.elim)
    · have hm6 := iff_ hm3 h5
      clear hm3
      refine c_skip ?_
      refine x_seq ?_
      refine c_seq ?_
      refine c_reg ?_
      refine r_u (o_mv rfl) ?_
      refine r_u (o_as rfl) ?_
      refine r_nil ?_
      refine x_seq ?_
      refine c_ret ?_
      obtain rfl := Option.some.inj hm6
      exact x_r1 rfl (rv_t rfl) (Le.refl _) (.inl ⟨_, rfl, _, rfl, rfl, rfl, rfl⟩)
  · refine c_blk ?_
    refine cd_loop (M := fun k16 (s : UInt64 × Int × Str) => wire_Reader_Num_l0 k16 s.1 s.2.1 s.2.2 = some p0) (Ef := fun (s : UInt64 × Int × Str) => [(0, pt b0_ 0), (1, vW a1), (5, vW s.1), (8, vI s.2.1)]) (Lf := fun (s : UInt64 × Int × Str) => Bk b0_ 114 [vS s.2.2] :: F) 11 (0, 0, a0.s) hp2 ⟨rfl, rfl, rfl, rfl, trivial⟩ (fun _ h => h) (fun _ h => by cases h) fun k16 s hM18 => ?_
    obtain ⟨n_13, s_14, c_15⟩ := s
    have hm17 : wire_Reader_Num_l0 (k16 + 1) n_13 s_14 c_15 = some p0 := hM18
    rw [wire_Reader_Num_l0] at hm17
    refine c_seq ?_
    refine c_reg ?_
    refine r_u (o_bin rfl rfl (bI_lt s_14 10)) ?_
    refine r_nil ?_
    refine x_seq ?_
    refine c_seq ?_
    refine c_if (b := decide (s_14 < 10)) rfl (fun h19 => ?_) fun h19 => ?_
    · have hm20 := ift hm17 h19
      clear hm17
      refine c_skip ?_
      refine x_seq ?_
      refine c_seq ?_
      refine c_blk ?_
      refine c_seq ?_
      refine c_reg ?_
      refine r_u (o_mv rfl) ?_
      refine r_u (o_as rfl) ?_
      refine r_nil ?_
      refine x_seq ?_
      refine c_seq ?_
      obtain ⟨r21, hr21, hm22⟩ := bs hm20
      clear hm20
      rcases r21 with ra23 | ⟨rn24, ro25⟩
      · have hm26 := sm_l hm22
        clear hm22
        refine c_reg ?_
        refine r_u (o_mv rfl) ?_
        refine r_c (s_w (o_callL ca78 rfl (wire_Reader_Bytes.ok b0_ (⟨c_15⟩ : wire_Reader) 1 (Sum.inl ra23) hr21) (fun _ _ _ h => h))) ?_
        obtain ⟨c27, hc27, hm28⟩ := bs hm26
        clear hm26
        refine r_u (o_ixS Try.underlying9 rfl rfl hc27) ?_
        refine r_u (o_as rfl) ?_
        refine r_nil ?_
        refine x_seq ?_
        refine c_seq ?_
        refine c_seq ?_
        refine c_reg ?_
        refine r_u (o_mv rfl) ?_
        refine r_u (o_bin rfl rfl (bI_eq s_14 9)) ?_
        refine r_u (o_mv rfl) ?_
        refine r_s (s_gt rfl rfl fun g => o_mv rfl) ?_
        refine r_s (s_gt rfl rfl fun g => o_bin (evg rfl g) rfl (bY_gt c27 1)) ?_
        refine r_u (o_and rfl rfl) ?_
        refine r_u (o_mv rfl) ?_
        refine r_s (s_gf rfl rfl fun g => o_mv rfl) ?_
        refine r_s (s_gf rfl rfl fun g => o_bin (evg rfl g) rfl (bI_gt s_14 0)) ?_
        refine r_s (s_gf rfl rfl fun g => o_mv (evg rfl g)) ?_
        refine r_s (s_ggt rfl rfl fun g => o_mv rfl) ?_
        refine r_s (s_ggt rfl rfl fun g => o_bin (evg rfl g) rfl (bY_eq c27 0)) ?_
        refine r_s (s_gf rfl rfl fun g => o_and (evg rfl g) (evg2 rfl g)) ?_
        refine r_u (o_or rfl rfl) ?_
        refine r_nil ?_
        refine x_seq ?_
        obtain ⟨p29, hp31, hm32⟩ := bs hm28
        refine cd_joinS (p := p29) (Ef := fun q30 => [(0, pt b0_ 0), (1, vW a1), (5, vW n_13), (6, vI s_14), (7, vY c27), (8, vI s_14)]) (Lf := fun q30 => Bk b0_ 114 (wire_Reader.c ra23.2) :: F) (fun q30 hq => ?_) fun K33 => ?_
        · subst hq
          try dsimp only at hm32
          refine x_seq ?_
          refine c_seq ?_
          refine c_reg ?_
          refine r_u (o_mv rfl) ?_
          refine r_u (o_mv rfl) ?_
          refine r_u (o_bin rfl rfl (bY_rem c27 128 (by decide))) ?_
          refine r_u (o_cv rfl (cYW Try.underlying5 Try.underlying22 (c27 % 128))) ?_
          refine r_u (o_mv rfl) ?_
          refine r_u (o_bin rfl rfl (bI_mul 7 s_14)) ?_
          obtain ⟨h34, hm35⟩ := ig hm32
          clear hm32
          refine r_u (o_bin rfl rfl (bWI_shl ((c27 % 128).toUInt64) (i64 (7 * s_14)) h34)) ?_
          refine r_u (o_bin rfl rfl (bW_or n_13 (shWl ((c27 % 128).toUInt64) (i64 (7 * s_14))))) ?_
          refine r_u (o_as rfl) ?_
          refine r_nil ?_
          refine x_seq ?_
          refine c_seq ?_
          refine c_reg ?_
          refine r_u (o_mv rfl) ?_
          refine r_u (o_bin rfl rfl (bY_lt c27 128)) ?_
          refine r_nil ?_
          refine x_seq ?_
          refine c_if (b := decide (c27 < 128)) rfl (fun h36 => ?_) fun h36 => ?_
          · have hm37 := ift hm35 h36
            clear hm35
            refine c_exit (x_exit (ks' := _) rfl ?_)
            obtain rfl := Option.some.inj hm37
            exact x_sub (K4 _ rfl) ⟨rfl, rfl, trivial⟩ (fun _ h => st_pk 1 [0] (by decide) h)
          · have hm37 := iff_ hm35 h36
            clear hm35
            refine c_skip ?_
            refine x_blk ?_
            refine x_seq ?_
            refine c_reg ?_
            refine r_u (o_bin rfl rfl (bI_add s_14 1)) ?_
            refine r_u (o_mv rfl) ?_
            refine r_nil ?_
            exact x_lp (n_13 ||| (shWl ((c27 % 128).toUInt64) (i64 (7 * s_14))), i64 (s_14 + 1), ra23.2.s) hm37 ⟨rfl, rfl, rfl, rfl, trivial⟩ (fun _ h => st_pk 1 [0] (by decide) h)
        · refine c_if (b := (((s_14 == 9) && decide (1 < c27)) || (decide (0 < s_14) && (c27 == 0)))) rfl (fun h38 => ?_) fun h38 => ?_
          · have hm39 := ift hp31 h38
            clear hp31
            obtain ⟨r40, hr40, hm41⟩ := ltx hm39
            clear hm39
            rcases r40 with ra42 | ⟨rn43, ro44⟩
            · have hm45 := sm_l hm41
              clear hm41
              refine c_reg ?_
              refine r_c (s_w (o_callL ca115 rfl (wire_fail.ok 6 (Sum.inl ra42) hr40) (fun _ _ _ h => h))) ?_
              refine r_nil ?_
              obtain rfl := Option.some.inj hm45
              exact x_sub (K33 _ rfl) ⟨rfl, rfl, rfl, rfl, rfl, rfl, trivial⟩ (fun _ h => st_pk 1 [0] (by decide) h)
            · have hm45 := sm_r hm41
              clear hm41
              refine c_reg ?_
              obtain rfl := Option.some.inj hm45
              try dsimp only at hm32
              obtain rfl := Option.some.inj hm32
              try dsimp only at hm3
              obtain rfl := Option.some.inj hm3
              exact r_sw (s_w (o_callR ca115 rfl (wire_fail.ok 6 (Sum.inr (rn43, ro44)) hr40) (by rintro _ _ _ ⟨rfl, rfl⟩; exact (px_st (fun _ h => st_pk 1 [0] (by decide) h) (px_of (Le.refl _) (.inr ⟨_, rfl, _, rfl, rfl, rfl⟩)))))) (fun _ _ _ _ h => h.elim)
          · have hm39 := iff_ hp31 h38
            clear hp31
            refine c_skip ?_
            obtain rfl := Option.some.inj hm39
            exact x_sub (K33 _ rfl) ⟨rfl, rfl, rfl, rfl, rfl, rfl, trivial⟩ (fun _ h => st_pk 1 [0] (by decide) h)
      · have hm26 := sm_r hm22
        clear hm22
        refine c_reg ?_
        refine r_u (o_mv rfl) ?_
        obtain rfl := Option.some.inj hm26
        try dsimp only at hm3
        obtain rfl := Option.some.inj hm3
        exact r_sw (s_w (o_callR ca78 rfl (wire_Reader_Bytes.ok b0_ (⟨c_15⟩ : wire_Reader) 1 (Sum.inr (rn24, ro25)) hr21) (by rintro _ _ _ ⟨rfl, rfl⟩; exact (px_st (fun _ h => st_pk 1 [0] (by decide) h) (px_of (Le.refl _) (.inr ⟨_, rfl, _, rfl, rfl, rfl⟩)))))) (fun _ _ _ _ h => h.elim)
    · have hm20 := iff_ hm17 h19
      clear hm17
      refine c_exit (x_exit (ks' := _) rfl ?_)
      obtain rfl := Option.some.inj hm20
      exact x_sub (K4 _ rfl) ⟨rfl, rfl, trivial⟩ (fun _ h => st_pk 1 [0] (by decide) h)

def wire_Reader_Must (a0 : wire_Reader) (a1 : Bool) : (Unit) ⊕ (Int × Unit) :=
  if !a1 then lt (wire_fail 6) fun r2 => sm r2 (fun (ra4 : Unit) => Sum.inl ()) fun ((rn5, ro6) : Int × Unit) => Sum.inr (rn5, ()) else Sum.inl ()
theorem wire_Reader_Must.ok {G R F} (b0_ : Nat) (a0 : wire_Reader) (a1 : Bool) (r : (Unit) ⊕ (Int × Unit)) (hm : wire_Reader_Must a0 a1 = r) : CO Try.prog 73 [pt b0_ 0, vB a1] G R (Bk b0_ 114 (wire_Reader.c a0) :: F)
    (PK 112 r (fun (a : Unit) u R' L' => u = .tuple #[] ∧ R' = R ∧ L' = Bk b0_ 114 (wire_Reader.c a0) :: F) (fun n (o : Unit) R' L' => R' = R ∧ L' = Bk b0_ 114 (wire_Reader.c a0) :: F)) := by
  unfold wire_Reader_Must at hm
  refine co_ofN (N := 7) Try.func73 rfl rfl ?_
  refine c_seq ?_
  refine c_reg ?_
  refine r_u (o_mv rfl) ?_
  refine r_u (o_not rfl) ?_
  refine r_nil ?_
  refine x_seq ?_
  refine c_if (b := !a1) rfl (fun h0 => ?_) fun h0 => ?_
  · have hm1 := ift hm h0
    clear hm
    obtain ⟨r2, hr2, hm3⟩ := ltx hm1
    clear hm1
    rcases r2 with ra4 | ⟨rn5, ro6⟩
    · have hm7 := sm_l hm3
      clear hm3
      refine c_reg ?_
      refine r_c (s_w (o_callL ca115 rfl (wire_fail.ok 6 (Sum.inl ra4) hr2) (fun _ _ _ h => h))) ?_
      refine r_nil ?_
      refine x_end ?_
      subst hm7
      exact x_r0 rfl (Le.refl _) (.inl ⟨_, rfl, _, rfl, rfl, rfl, rfl⟩)
    · have hm7 := sm_r hm3
      clear hm3
      refine c_reg ?_
      subst hm7
      exact r_sw (s_w (o_callR ca115 rfl (wire_fail.ok 6 (Sum.inr (rn5, ro6)) hr2) (by rintro _ _ _ ⟨rfl, rfl⟩; exact (px_st (fun _ h => st_pk 1 [0] (by decide) h) (px_of (Le.refl _) (.inr ⟨_, rfl, _, rfl, rfl, rfl⟩)))))) (fun _ _ _ _ h => h.elim)
  · have hm1 := iff_ hm h0
    clear hm
    refine c_skip ?_
    refine x_end ?_
    subst hm1
    exact x_r0 rfl (Le.refl _) (.inl ⟨_, rfl, _, rfl, rfl, rfl, rfl⟩)

def cell_Check (a0 : api_View) : Bool :=
  (((decide (1 ≤ a0.V) && decide (1 ≤ a0.Epoch)) && ((decide (0 ≤ a0.Primary) && decide (a0.Primary < 1048576)) && decide (1 ≤ a0.PLife))) && (((a0.Backup == (-1)) && (a0.BLife == 0)) || (((decide (0 ≤ a0.Backup) && decide (a0.Backup < 1048576)) && decide (1 ≤ a0.BLife)) && (a0.Backup != a0.Primary))))
theorem cell_Check.ok {G R F} (a0 : api_View) (r : Bool) (hm : cell_Check a0 = r) : CO Try.prog 116 [.agg (api_View.c a0).toArray] G R (F)
    (Ret fun u R' L' => u = vB r ∧ R' = R ∧ L' = F) := by
  unfold cell_Check at hm
  refine co_ofN (N := 62) Try.func116 rfl rfl ?_
  refine c_seq ?_
  refine c_reg ?_
  refine r_new (o_bx (api_View.c a0) rfl rfl) fun b0 => ?_
  refine r_u (o_as rfl) ?_
  refine r_nil ?_
  refine x_seq ?_
  refine c_seq ?_
  refine c_reg ?_
  refine r_u (o_fa fa24_1 rfl) ?_
  refine r_u (o_ld 0 sc3 rfl rfl rfl) ?_
  refine r_u (o_bin rfl rfl (bI_ge a0.Primary 0)) ?_
  refine r_u (o_mv rfl) ?_
  refine r_s (s_gt rfl rfl fun g => o_fa fa24_1 rfl) ?_
  refine r_s (s_gt rfl rfl fun g => o_ld 0 sc3 (evg rfl g) rfl rfl) ?_
  refine r_s (s_gt rfl rfl fun g => o_bin (evg rfl g) rfl (bI_lt a0.Primary 1048576)) ?_
  refine r_u (o_and rfl rfl) ?_
  refine r_u (o_mv rfl) ?_
  refine r_s (s_gt rfl rfl fun g => o_fa fa24_2 rfl) ?_
  refine r_s (s_gt rfl rfl fun g => o_ld 0 sc22 (evg rfl g) rfl rfl) ?_
  refine r_s (s_gt rfl rfl fun g => o_bin (evg rfl g) rfl (bW_ge a0.PLife 1)) ?_
  refine r_u (o_and rfl rfl) ?_
  refine r_u (o_as rfl) ?_
  refine r_nil ?_
  refine x_seq ?_
  refine c_seq ?_
  refine c_reg ?_
  refine r_u (o_fa fa24_3 rfl) ?_
  refine r_u (o_ld 0 sc3 rfl rfl rfl) ?_
  refine r_u (o_bin rfl rfl (bI_eq a0.Backup (-1))) ?_
  refine r_u (o_mv rfl) ?_
  refine r_s (s_gt rfl rfl fun g => o_fa fa24_4 rfl) ?_
  refine r_s (s_gt rfl rfl fun g => o_ld 0 sc22 (evg rfl g) rfl rfl) ?_
  refine r_s (s_gt rfl rfl fun g => o_bin (evg rfl g) rfl (bW_eq a0.BLife 0)) ?_
  refine r_u (o_and rfl rfl) ?_
  refine r_u (o_mv rfl) ?_
  refine r_s (s_gf rfl rfl fun g => o_fa fa24_3 rfl) ?_
  refine r_s (s_gf rfl rfl fun g => o_ld 0 sc3 (evg rfl g) rfl rfl) ?_
  refine r_s (s_gf rfl rfl fun g => o_bin (evg rfl g) rfl (bI_ge a0.Backup 0)) ?_
  refine r_s (s_gf rfl rfl fun g => o_mv (evg rfl g)) ?_
  refine r_s (s_ggt rfl rfl fun g => o_fa fa24_3 rfl) ?_
  refine r_s (s_ggt rfl rfl fun g => o_ld 0 sc3 (evg rfl g) rfl rfl) ?_
  refine r_s (s_ggt rfl rfl fun g => o_bin (evg rfl g) rfl (bI_lt a0.Backup 1048576)) ?_
  refine r_s (s_gf rfl rfl fun g => o_and (evg rfl g) (evg2 rfl g)) ?_
  refine r_s (s_gf rfl rfl fun g => o_mv (evg rfl g)) ?_
  refine r_s (s_ggt rfl rfl fun g => o_fa fa24_4 rfl) ?_
  refine r_s (s_ggt rfl rfl fun g => o_ld 0 sc22 (evg rfl g) rfl rfl) ?_
  refine r_s (s_ggt rfl rfl fun g => o_bin (evg rfl g) rfl (bW_ge a0.BLife 1)) ?_
  refine r_s (s_gf rfl rfl fun g => o_and (evg rfl g) (evg2 rfl g)) ?_
  refine r_s (s_gf rfl rfl fun g => o_mv (evg rfl g)) ?_
  refine r_s (s_ggt rfl rfl fun g => o_fa fa24_3 rfl) ?_
  refine r_s (s_ggt rfl rfl fun g => o_ld 0 sc3 (evg rfl g) rfl rfl) ?_
  refine r_s (s_ggt rfl rfl fun g => o_fa fa24_1 rfl) ?_
  refine r_s (s_ggt rfl rfl fun g => o_ld 0 sc3 (evg rfl g) rfl rfl) ?_
  refine r_s (s_ggt rfl rfl fun g => o_bin (evg rfl g) (evg rfl g) (bI_ne a0.Backup a0.Primary)) ?_
  refine r_s (s_gf rfl rfl fun g => o_and (evg rfl g) (evg2 rfl g)) ?_
  refine r_u (o_or rfl rfl) ?_
  refine r_u (o_as rfl) ?_
  refine r_nil ?_
  refine x_seq ?_
  refine c_seq ?_
  refine c_reg ?_
  refine r_u (o_fa fa24_0 rfl) ?_
  refine r_u (o_ld 0 sc22 rfl rfl rfl) ?_
  refine r_u (o_bin rfl rfl (bW_ge a0.V 1)) ?_
  refine r_u (o_mv rfl) ?_
  refine r_s (s_gt rfl rfl fun g => o_fa fa24_5 rfl) ?_
  refine r_s (s_gt rfl rfl fun g => o_ld 0 sc22 (evg rfl g) rfl rfl) ?_
  refine r_s (s_gt rfl rfl fun g => o_bin (evg rfl g) rfl (bW_ge a0.Epoch 1)) ?_
  refine r_u (o_and rfl rfl) ?_
  refine r_u (o_mv rfl) ?_
  refine r_s (s_gt rfl rfl fun g => o_mv rfl) ?_
  refine r_u (o_and rfl rfl) ?_
  refine r_u (o_mv rfl) ?_
  refine r_s (s_gt rfl rfl fun g => o_mv rfl) ?_
  refine r_u (o_and rfl rfl) ?_
  refine r_u (o_as rfl) ?_
  refine r_nil ?_
  refine x_seq ?_
  refine c_ret ?_
  subst hm
  refine ex_st (fun _ h => st_pk 1 [] (by decide) h) ?_
  exact x_r1 rfl (rv_t rfl) (Le.refl _) ⟨_, rfl, rfl, rfl, rfl⟩

def cell_TakeView (a0 : wire_Reader) : Option ((api_View × wire_Reader) ⊕ (Int × wire_Reader)) :=
  (wire_Reader_Num a0 18446744073709551615).bind fun r1 => sm r1 (fun (ra3 : UInt64 × wire_Reader) => (wire_Reader_Num ra3.2 1048576).bind fun r7 => sm r7 (fun (ra9 : UInt64 × wire_Reader) => (wire_Reader_Num ra9.2 18446744073709551615).bind fun r13 => sm r13 (fun (ra15 : UInt64 × wire_Reader) => (wire_Reader_Num ra15.2 1048576).bind fun r19 => sm r19 (fun (ra21 : UInt64 × wire_Reader) => (wire_Reader_Num ra21.2 18446744073709551615).bind fun r25 => sm r25 (fun (ra27 : UInt64 × wire_Reader) => (wire_Reader_Num ra27.2 18446744073709551615).bind fun r31 => sm r31 (fun (ra33 : UInt64 × wire_Reader) => if decide ((⟨ra3.1, i64 (ra9.1.toNat : Int), ra15.1, i64 ((i64 (ra21.1.toNat : Int)) - 1), ra27.1, ra33.1⟩ : api_View) = (⟨0, 0, 0, (-1), 0, 0⟩ : api_View)) then some (Sum.inl ((⟨0, 0, 0, 0, 0, 0⟩ : api_View), ra33.2)) else lt (wire_Reader_Must ra33.2 (cell_Check (⟨ra3.1, i64 (ra9.1.toNat : Int), ra15.1, i64 ((i64 (ra21.1.toNat : Int)) - 1), ra27.1, ra33.1⟩ : api_View))) fun r40 => sm r40 (fun (ra42 : Unit) => some (Sum.inl ((⟨ra3.1, i64 (ra9.1.toNat : Int), ra15.1, i64 ((i64 (ra21.1.toNat : Int)) - 1), ra27.1, ra33.1⟩ : api_View), ra33.2))) fun ((rn43, ro44) : Int × Unit) => some (Sum.inr (rn43, ra33.2))) fun ((rn34, ro35) : Int × wire_Reader) => some (Sum.inr (rn34, ro35))) fun ((rn28, ro29) : Int × wire_Reader) => some (Sum.inr (rn28, ro29))) fun ((rn22, ro23) : Int × wire_Reader) => some (Sum.inr (rn22, ro23))) fun ((rn16, ro17) : Int × wire_Reader) => some (Sum.inr (rn16, ro17))) fun ((rn10, ro11) : Int × wire_Reader) => some (Sum.inr (rn10, ro11))) fun ((rn4, ro5) : Int × wire_Reader) => some (Sum.inr (rn4, ro5))
theorem cell_TakeView.ok {G R F} (b0_ : Nat) (a0 : wire_Reader) (r : (api_View × wire_Reader) ⊕ (Int × wire_Reader)) (hm : cell_TakeView a0 = some r) : CO Try.prog 74 [pt b0_ 0] G R (Bk b0_ 114 (wire_Reader.c a0) :: F)
    (PK 112 r (fun (a : api_View × wire_Reader) u R' L' => u = .agg (api_View.c a.1).toArray ∧ R' = R ∧ L' = Bk b0_ 114 (wire_Reader.c a.2) :: F) (fun n (o : wire_Reader) R' L' => R' = R ∧ L' = Bk b0_ 114 (wire_Reader.c o) :: F)) := by
  unfold cell_TakeView at hm
  refine co_ofN (N := 29) Try.func74 rfl rfl ?_
  refine c_seq ?_
  refine c_reg ?_
  refine r_new (o_al ze24) fun b0 => ?_
  refine r_nil ?_
  refine x_seq ?_
  refine c_seq ?_
  obtain ⟨r1, hr1, hm2⟩ := bs hm
  clear hm
  rcases r1 with ra3 | ⟨rn4, ro5⟩
  · have hm6 := sm_l hm2
    clear hm2
    obtain ⟨r7, hr7, hm8⟩ := bs hm6
    clear hm6
    rcases r7 with ra9 | ⟨rn10, ro11⟩
    · have hm12 := sm_l hm8
      clear hm8
      obtain ⟨r13, hr13, hm14⟩ := bs hm12
      clear hm12
      rcases r13 with ra15 | ⟨rn16, ro17⟩
      · have hm18 := sm_l hm14
        clear hm14
        obtain ⟨r19, hr19, hm20⟩ := bs hm18
        clear hm18
        rcases r19 with ra21 | ⟨rn22, ro23⟩
        · have hm24 := sm_l hm20
          clear hm20
          obtain ⟨r25, hr25, hm26⟩ := bs hm24
          clear hm24
          rcases r25 with ra27 | ⟨rn28, ro29⟩
          · have hm30 := sm_l hm26
            clear hm26
            obtain ⟨r31, hr31, hm32⟩ := bs hm30
            clear hm30
            rcases r31 with ra33 | ⟨rn34, ro35⟩
            · have hm36 := sm_l hm32
              clear hm32
              refine c_reg ?_
              refine r_u (o_mv rfl) ?_
              refine rl_st (fun _ h => st_pk 2 [1, 0] (by decide) h) ?_
              refine r_c (s_w (o_callL ca72 rfl (wire_Reader_Num.ok b0_ a0 18446744073709551615 (Sum.inl ra3) hr1) (fun _ _ _ h => h))) ?_
              refine r_u (o_mv rfl) ?_
              refine r_c (s_w (o_callL ca72 rfl (wire_Reader_Num.ok b0_ ra3.2 1048576 (Sum.inl ra9) hr7) (fun _ _ _ h => h))) ?_
              refine r_u (o_cv rfl (cWI Try.underlying22 Try.underlying3 ra9.1)) ?_
              refine r_u (o_mv rfl) ?_
              refine r_c (s_w (o_callL ca72 rfl (wire_Reader_Num.ok b0_ ra9.2 18446744073709551615 (Sum.inl ra15) hr13) (fun _ _ _ h => h))) ?_
              refine r_u (o_mv rfl) ?_
              refine r_c (s_w (o_callL ca72 rfl (wire_Reader_Num.ok b0_ ra15.2 1048576 (Sum.inl ra21) hr19) (fun _ _ _ h => h))) ?_
              refine r_u (o_cv rfl (cWI Try.underlying22 Try.underlying3 ra21.1)) ?_
              refine r_u (o_bin rfl rfl (bI_sub (i64 (ra21.1.toNat : Int)) 1)) ?_
              refine r_u (o_mv rfl) ?_
              refine r_c (s_w (o_callL ca72 rfl (wire_Reader_Num.ok b0_ ra21.2 18446744073709551615 (Sum.inl ra27) hr25) (fun _ _ _ h => h))) ?_
              refine r_u (o_mv rfl) ?_
              refine r_c (s_w (o_callL ca72 rfl (wire_Reader_Num.ok b0_ ra27.2 18446744073709551615 (Sum.inl ra33) hr31) (fun _ _ _ h => h))) ?_
              refine r_u (o_bld [vW ra3.1, vI (i64 (ra9.1.toNat : Int)), vW ra15.1, vI (i64 ((i64 (ra21.1.toNat : Int)) - 1)), vW ra27.1, vW ra33.1] rfl (fun _ => by kernel_rfl)) ?_
              refine r_new (o_al ze24) fun b37 => ?_
              refine r_u0 (o_stn ag24 rfl rfl rfl rfl rfl rfl rfl) ?_
              refine r_nil ?_
              refine x_seq ?_
              refine c_seq ?_
              refine c_seq ?_
              refine c_reg ?_
              refine r_u (o_ldn 0 [vW ra3.1, vI (i64 (ra9.1.toNat : Int)), vW ra15.1, vI (i64 ((i64 (ra21.1.toNat : Int)) - 1)), vW ra27.1, vW ra33.1] ag24 rfl rfl rfl rfl) ?_
              refine r_u (o_bld [vW 0, vI 0, vW 0, vI (-1), vW 0, vW 0] rfl (fun _ => by kernel_rfl)) ?_
              refine r_u (o_bin rfl rfl (api_View.beq_24 (⟨ra3.1, i64 (ra9.1.toNat : Int), ra15.1, i64 ((i64 (ra21.1.toNat : Int)) - 1), ra27.1, ra33.1⟩ : api_View) (⟨0, 0, 0, (-1), 0, 0⟩ : api_View))) ?_
              refine r_nil ?_
              refine x_seq ?_
              refine c_if (b := decide ((⟨ra3.1, i64 (ra9.1.toNat : Int), ra15.1, i64 ((i64 (ra21.1.toNat : Int)) - 1), ra27.1, ra33.1⟩ : api_View) = (⟨0, 0, 0, (-1), 0, 0⟩ : api_View))) rfl (fun h38 => ?_) fun h38 => ?_
              · have hm39 := ift hm36 h38
                clear hm36
                refine c_seq ?_
                refine c_reg ?_
                refine r_u (o_bld [vW 0, vI 0, vW 0, vI 0, vW 0, vW 0] rfl (fun _ => by kernel_rfl)) ?_
                refine rl_st (fun _ h => st_pk 3 [2, 0, 1] (by decide) h) ?_
                refine r_u0 (o_stn ag24 rfl rfl rfl rfl rfl rfl rfl) ?_
                refine r_nil ?_
                refine x_seq ?_
                refine c_ret ?_
                obtain rfl := Option.some.inj hm39
                exact x_d1 rfl (rv_n 0 [vW 0, vI 0, vW 0, vI 0, vW 0, vW 0] ag24 rfl rfl rfl rfl) (fun _ h => st_pk 3 [2] (by decide) h) (Le.refl _) (.inl ⟨_, rfl, _, rfl, rfl, rfl, rfl⟩)
              · have hm39 := iff_ hm36 h38
                clear hm36
                refine c_skip ?_
                refine x_seq ?_
                refine c_seq ?_
                obtain ⟨r40, hr40, hm41⟩ := ltx hm39
                clear hm39
                rcases r40 with ra42 | ⟨rn43, ro44⟩
                · have hm45 := sm_l hm41
                  clear hm41
                  refine c_reg ?_
                  refine r_u (o_mv rfl) ?_
                  refine r_u (o_ldn 0 [vW ra3.1, vI (i64 (ra9.1.toNat : Int)), vW ra15.1, vI (i64 ((i64 (ra21.1.toNat : Int)) - 1)), vW ra27.1, vW ra33.1] ag24 rfl rfl rfl rfl) ?_
                  refine r_u (o_callq ca116 rfl (cell_Check.ok (⟨ra3.1, i64 (ra9.1.toNat : Int), ra15.1, i64 ((i64 (ra21.1.toNat : Int)) - 1), ra27.1, ra33.1⟩ : api_View) _ rfl)) ?_
                  refine rl_st (fun _ h => st_pk 3 [1, 0, 2] (by decide) h) ?_
                  refine r_c (s_w (o_callL ca73 rfl (wire_Reader_Must.ok b0_ ra33.2 (cell_Check (⟨ra3.1, i64 (ra9.1.toNat : Int), ra15.1, i64 ((i64 (ra21.1.toNat : Int)) - 1), ra27.1, ra33.1⟩ : api_View)) (Sum.inl ra42) hr40) (fun _ _ _ h => h))) ?_
                  refine r_nil ?_
                  refine x_seq ?_
                  refine c_seq ?_
                  refine c_reg ?_
                  refine r_u (o_ldn 1 [vW ra3.1, vI (i64 (ra9.1.toNat : Int)), vW ra15.1, vI (i64 ((i64 (ra21.1.toNat : Int)) - 1)), vW ra27.1, vW ra33.1] ag24 rfl rfl rfl rfl) ?_
                  refine rl_st (fun _ h => st_pk 3 [2, 0, 1] (by decide) h) ?_
                  refine r_u0 (o_stn ag24 rfl rfl rfl rfl rfl rfl rfl) ?_
                  refine r_nil ?_
                  refine x_seq ?_
                  refine c_ret ?_
                  obtain rfl := Option.some.inj hm45
                  exact x_d1 rfl (rv_n 0 [vW ra3.1, vI (i64 (ra9.1.toNat : Int)), vW ra15.1, vI (i64 ((i64 (ra21.1.toNat : Int)) - 1)), vW ra27.1, vW ra33.1] ag24 rfl rfl rfl rfl) (fun _ h => st_pk 3 [1] (by decide) h) (Le.refl _) (.inl ⟨_, rfl, _, rfl, rfl, rfl, rfl⟩)
                · have hm45 := sm_r hm41
                  clear hm41
                  refine c_reg ?_
                  refine r_u (o_mv rfl) ?_
                  refine r_u (o_ldn 0 [vW ra3.1, vI (i64 (ra9.1.toNat : Int)), vW ra15.1, vI (i64 ((i64 (ra21.1.toNat : Int)) - 1)), vW ra27.1, vW ra33.1] ag24 rfl rfl rfl rfl) ?_
                  refine r_u (o_callq ca116 rfl (cell_Check.ok (⟨ra3.1, i64 (ra9.1.toNat : Int), ra15.1, i64 ((i64 (ra21.1.toNat : Int)) - 1), ra27.1, ra33.1⟩ : api_View) _ rfl)) ?_
                  refine rl_st (fun _ h => st_pk 3 [1, 0, 2] (by decide) h) ?_
                  obtain rfl := Option.some.inj hm45
                  exact r_sw (s_w (o_callR ca73 rfl (wire_Reader_Must.ok b0_ ra33.2 (cell_Check (⟨ra3.1, i64 (ra9.1.toNat : Int), ra15.1, i64 ((i64 (ra21.1.toNat : Int)) - 1), ra27.1, ra33.1⟩ : api_View)) (Sum.inr (rn43, ro44)) hr40) (by rintro _ _ _ ⟨rfl, rfl⟩; exact (px_st (fun _ h => st_pk 3 [0] (by decide) h) (px_of (Le.refl _) (.inr ⟨_, rfl, _, rfl, rfl, rfl⟩)))))) (fun _ _ _ _ h => h.elim)
            · have hm36 := sm_r hm32
              clear hm32
              refine c_reg ?_
              refine r_u (o_mv rfl) ?_
              refine rl_st (fun _ h => st_pk 2 [1, 0] (by decide) h) ?_
              refine r_c (s_w (o_callL ca72 rfl (wire_Reader_Num.ok b0_ a0 18446744073709551615 (Sum.inl ra3) hr1) (fun _ _ _ h => h))) ?_
              refine r_u (o_mv rfl) ?_
              refine r_c (s_w (o_callL ca72 rfl (wire_Reader_Num.ok b0_ ra3.2 1048576 (Sum.inl ra9) hr7) (fun _ _ _ h => h))) ?_
              refine r_u (o_cv rfl (cWI Try.underlying22 Try.underlying3 ra9.1)) ?_
              refine r_u (o_mv rfl) ?_
              refine r_c (s_w (o_callL ca72 rfl (wire_Reader_Num.ok b0_ ra9.2 18446744073709551615 (Sum.inl ra15) hr13) (fun _ _ _ h => h))) ?_
              refine r_u (o_mv rfl) ?_
              refine r_c (s_w (o_callL ca72 rfl (wire_Reader_Num.ok b0_ ra15.2 1048576 (Sum.inl ra21) hr19) (fun _ _ _ h => h))) ?_
              refine r_u (o_cv rfl (cWI Try.underlying22 Try.underlying3 ra21.1)) ?_
              refine r_u (o_bin rfl rfl (bI_sub (i64 (ra21.1.toNat : Int)) 1)) ?_
              refine r_u (o_mv rfl) ?_
              refine r_c (s_w (o_callL ca72 rfl (wire_Reader_Num.ok b0_ ra21.2 18446744073709551615 (Sum.inl ra27) hr25) (fun _ _ _ h => h))) ?_
              refine r_u (o_mv rfl) ?_
              obtain rfl := Option.some.inj hm36
              exact r_sw (s_w (o_callR ca72 rfl (wire_Reader_Num.ok b0_ ra27.2 18446744073709551615 (Sum.inr (rn34, ro35)) hr31) (by rintro _ _ _ ⟨rfl, rfl⟩; exact (px_st (fun _ h => st_pk 2 [0] (by decide) h) (px_of (Le.refl _) (.inr ⟨_, rfl, _, rfl, rfl, rfl⟩)))))) (fun _ _ _ _ h => h.elim)
          · have hm30 := sm_r hm26
            clear hm26
            refine c_reg ?_
            refine r_u (o_mv rfl) ?_
            refine rl_st (fun _ h => st_pk 2 [1, 0] (by decide) h) ?_
            refine r_c (s_w (o_callL ca72 rfl (wire_Reader_Num.ok b0_ a0 18446744073709551615 (Sum.inl ra3) hr1) (fun _ _ _ h => h))) ?_
            refine r_u (o_mv rfl) ?_
            refine r_c (s_w (o_callL ca72 rfl (wire_Reader_Num.ok b0_ ra3.2 1048576 (Sum.inl ra9) hr7) (fun _ _ _ h => h))) ?_
            refine r_u (o_cv rfl (cWI Try.underlying22 Try.underlying3 ra9.1)) ?_
            refine r_u (o_mv rfl) ?_
            refine r_c (s_w (o_callL ca72 rfl (wire_Reader_Num.ok b0_ ra9.2 18446744073709551615 (Sum.inl ra15) hr13) (fun _ _ _ h => h))) ?_
            refine r_u (o_mv rfl) ?_
            refine r_c (s_w (o_callL ca72 rfl (wire_Reader_Num.ok b0_ ra15.2 1048576 (Sum.inl ra21) hr19) (fun _ _ _ h => h))) ?_
            refine r_u (o_cv rfl (cWI Try.underlying22 Try.underlying3 ra21.1)) ?_
            refine r_u (o_bin rfl rfl (bI_sub (i64 (ra21.1.toNat : Int)) 1)) ?_
            refine r_u (o_mv rfl) ?_
            obtain rfl := Option.some.inj hm30
            exact r_sw (s_w (o_callR ca72 rfl (wire_Reader_Num.ok b0_ ra21.2 18446744073709551615 (Sum.inr (rn28, ro29)) hr25) (by rintro _ _ _ ⟨rfl, rfl⟩; exact (px_st (fun _ h => st_pk 2 [0] (by decide) h) (px_of (Le.refl _) (.inr ⟨_, rfl, _, rfl, rfl, rfl⟩)))))) (fun _ _ _ _ h => h.elim)
        · have hm24 := sm_r hm20
          clear hm20
          refine c_reg ?_
          refine r_u (o_mv rfl) ?_
          refine rl_st (fun _ h => st_pk 2 [1, 0] (by decide) h) ?_
          refine r_c (s_w (o_callL ca72 rfl (wire_Reader_Num.ok b0_ a0 18446744073709551615 (Sum.inl ra3) hr1) (fun _ _ _ h => h))) ?_
          refine r_u (o_mv rfl) ?_
          refine r_c (s_w (o_callL ca72 rfl (wire_Reader_Num.ok b0_ ra3.2 1048576 (Sum.inl ra9) hr7) (fun _ _ _ h => h))) ?_
          refine r_u (o_cv rfl (cWI Try.underlying22 Try.underlying3 ra9.1)) ?_
          refine r_u (o_mv rfl) ?_
          refine r_c (s_w (o_callL ca72 rfl (wire_Reader_Num.ok b0_ ra9.2 18446744073709551615 (Sum.inl ra15) hr13) (fun _ _ _ h => h))) ?_
          refine r_u (o_mv rfl) ?_
          obtain rfl := Option.some.inj hm24
          exact r_sw (s_w (o_callR ca72 rfl (wire_Reader_Num.ok b0_ ra15.2 1048576 (Sum.inr (rn22, ro23)) hr19) (by rintro _ _ _ ⟨rfl, rfl⟩; exact (px_st (fun _ h => st_pk 2 [0] (by decide) h) (px_of (Le.refl _) (.inr ⟨_, rfl, _, rfl, rfl, rfl⟩)))))) (fun _ _ _ _ h => h.elim)
      · have hm18 := sm_r hm14
        clear hm14
        refine c_reg ?_
        refine r_u (o_mv rfl) ?_
        refine rl_st (fun _ h => st_pk 2 [1, 0] (by decide) h) ?_
        refine r_c (s_w (o_callL ca72 rfl (wire_Reader_Num.ok b0_ a0 18446744073709551615 (Sum.inl ra3) hr1) (fun _ _ _ h => h))) ?_
        refine r_u (o_mv rfl) ?_
        refine r_c (s_w (o_callL ca72 rfl (wire_Reader_Num.ok b0_ ra3.2 1048576 (Sum.inl ra9) hr7) (fun _ _ _ h => h))) ?_
        refine r_u (o_cv rfl (cWI Try.underlying22 Try.underlying3 ra9.1)) ?_
        refine r_u (o_mv rfl) ?_
        obtain rfl := Option.some.inj hm18
        exact r_sw (s_w (o_callR ca72 rfl (wire_Reader_Num.ok b0_ ra9.2 18446744073709551615 (Sum.inr (rn16, ro17)) hr13) (by rintro _ _ _ ⟨rfl, rfl⟩; exact (px_st (fun _ h => st_pk 2 [0] (by decide) h) (px_of (Le.refl _) (.inr ⟨_, rfl, _, rfl, rfl, rfl⟩)))))) (fun _ _ _ _ h => h.elim)
    · have hm12 := sm_r hm8
      clear hm8
      refine c_reg ?_
      refine r_u (o_mv rfl) ?_
      refine rl_st (fun _ h => st_pk 2 [1, 0] (by decide) h) ?_
      refine r_c (s_w (o_callL ca72 rfl (wire_Reader_Num.ok b0_ a0 18446744073709551615 (Sum.inl ra3) hr1) (fun _ _ _ h => h))) ?_
      refine r_u (o_mv rfl) ?_
      obtain rfl := Option.some.inj hm12
      exact r_sw (s_w (o_callR ca72 rfl (wire_Reader_Num.ok b0_ ra3.2 1048576 (Sum.inr (rn10, ro11)) hr7) (by rintro _ _ _ ⟨rfl, rfl⟩; exact (px_st (fun _ h => st_pk 2 [0] (by decide) h) (px_of (Le.refl _) (.inr ⟨_, rfl, _, rfl, rfl, rfl⟩)))))) (fun _ _ _ _ h => h.elim)
  · have hm6 := sm_r hm2
    clear hm2
    refine c_reg ?_
    refine r_u (o_mv rfl) ?_
    refine rl_st (fun _ h => st_pk 2 [1, 0] (by decide) h) ?_
    obtain rfl := Option.some.inj hm6
    exact r_sw (s_w (o_callR ca72 rfl (wire_Reader_Num.ok b0_ a0 18446744073709551615 (Sum.inr (rn4, ro5)) hr1) (by rintro _ _ _ ⟨rfl, rfl⟩; exact (px_st (fun _ h => st_pk 2 [0] (by decide) h) (px_of (Le.refl _) (.inr ⟨_, rfl, _, rfl, rfl, rfl⟩)))))) (fun _ _ _ _ h => h.elim)

def wire_Reader_Flag (a0 : wire_Reader) : Option ((Bool × wire_Reader) ⊕ (Int × wire_Reader)) :=
  (wire_Reader_Bytes a0 1).bind fun r0 => sm r0 (fun (ra2 : Str × wire_Reader) => (gi ra2.1 0).bind fun c6 => if decide (1 < c6) then lt (wire_fail 6) fun r10 => sm r10 (fun (ra12 : Unit) => some (Sum.inl ((c6 == 1), ra2.2))) fun ((rn13, ro14) : Int × Unit) => some (Sum.inr (rn13, ra2.2)) else some (Sum.inl ((c6 == 1), ra2.2))) fun ((rn3, ro4) : Int × wire_Reader) => some (Sum.inr (rn3, ro4))
theorem wire_Reader_Flag.ok {G R F} (b0_ : Nat) (a0 : wire_Reader) (r : (Bool × wire_Reader) ⊕ (Int × wire_Reader)) (hm : wire_Reader_Flag a0 = some r) : CO Try.prog 117 [pt b0_ 0] G R (Bk b0_ 114 (wire_Reader.c a0) :: F)
    (PK 112 r (fun (a : Bool × wire_Reader) u R' L' => u = vB a.1 ∧ R' = R ∧ L' = Bk b0_ 114 (wire_Reader.c a.2) :: F) (fun n (o : wire_Reader) R' L' => R' = R ∧ L' = Bk b0_ 114 (wire_Reader.c o) :: F)) := by
  unfold wire_Reader_Flag at hm
  refine co_ofN (N := 12) Try.func117 rfl rfl ?_
  refine c_seq ?_
  refine c_reg ?_
  refine r_u (o_as rfl) ?_
  refine r_nil ?_
  refine x_seq ?_
  refine c_seq ?_
  obtain ⟨r0, hr0, hm1⟩ := bs hm
  clear hm
  rcases r0 with ra2 | ⟨rn3, ro4⟩
  · have hm5 := sm_l hm1
    clear hm1
    refine c_reg ?_
    refine r_u (o_mv rfl) ?_
    refine r_c (s_w (o_callL ca78 rfl (wire_Reader_Bytes.ok b0_ a0 1 (Sum.inl ra2) hr0) (fun _ _ _ h => h))) ?_
    obtain ⟨c6, hc6, hm7⟩ := bs hm5
    clear hm5
    refine r_u (o_ixS Try.underlying9 rfl rfl hc6) ?_
    refine r_u (o_as rfl) ?_
    refine r_nil ?_
    refine x_seq ?_
    refine c_seq ?_
    refine c_seq ?_
    refine c_reg ?_
    refine r_u (o_mv rfl) ?_
    refine r_u (o_bin rfl rfl (bY_gt c6 1)) ?_
    refine r_nil ?_
    refine x_seq ?_
    refine c_if (b := decide (1 < c6)) rfl (fun h8 => ?_) fun h8 => ?_
    · have hm9 := ift hm7 h8
      clear hm7
      obtain ⟨r10, hr10, hm11⟩ := ltx hm9
      clear hm9
      rcases r10 with ra12 | ⟨rn13, ro14⟩
      · have hm15 := sm_l hm11
        clear hm11
        refine c_reg ?_
        refine r_c (s_w (o_callL ca115 rfl (wire_fail.ok 6 (Sum.inl ra12) hr10) (fun _ _ _ h => h))) ?_
        refine r_nil ?_
        refine x_seq ?_
        refine c_seq ?_
        refine c_reg ?_
        refine r_u (o_mv rfl) ?_
        refine r_u (o_bin rfl rfl (bY_eq c6 1)) ?_
        refine r_u (o_as rfl) ?_
        refine r_nil ?_
        refine x_seq ?_
        refine c_ret ?_
        obtain rfl := Option.some.inj hm15
        exact x_r1 rfl (rv_t rfl) (Le.refl _) (.inl ⟨_, rfl, _, rfl, rfl, rfl, rfl⟩)
      · have hm15 := sm_r hm11
        clear hm11
        refine c_reg ?_
        obtain rfl := Option.some.inj hm15
        exact r_sw (s_w (o_callR ca115 rfl (wire_fail.ok 6 (Sum.inr (rn13, ro14)) hr10) (by rintro _ _ _ ⟨rfl, rfl⟩; exact (px_st (fun _ h => st_pk 1 [0] (by decide) h) (px_of (Le.refl _) (.inr ⟨_, rfl, _, rfl, rfl, rfl⟩)))))) (fun _ _ _ _ h => h.elim)
    · have hm9 := iff_ hm7 h8
      clear hm7
      refine c_skip ?_
      refine x_seq ?_
      refine c_seq ?_
      refine c_reg ?_
      refine r_u (o_mv rfl) ?_
      refine r_u (o_bin rfl rfl (bY_eq c6 1)) ?_
      refine r_u (o_as rfl) ?_
      refine r_nil ?_
      refine x_seq ?_
      refine c_ret ?_
      obtain rfl := Option.some.inj hm9
      exact x_r1 rfl (rv_t rfl) (Le.refl _) (.inl ⟨_, rfl, _, rfl, rfl, rfl, rfl⟩)
  · have hm5 := sm_r hm1
    clear hm1
    refine c_reg ?_
    refine r_u (o_mv rfl) ?_
    obtain rfl := Option.some.inj hm5
    exact r_sw (s_w (o_callR ca78 rfl (wire_Reader_Bytes.ok b0_ a0 1 (Sum.inr (rn3, ro4)) hr0) (by rintro _ _ _ ⟨rfl, rfl⟩; exact (px_st (fun _ h => st_pk 1 [0] (by decide) h) (px_of (Le.refl _) (.inr ⟨_, rfl, _, rfl, rfl, rfl⟩)))))) (fun _ _ _ _ h => h.elim)

end Go.Proofs.Ythngfieikhillaa
