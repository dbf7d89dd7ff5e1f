import Derived.Test.YtlahbmoebbflbaaGreatFacts
import Derived.Test.YtlahbmoebbflbaaGreatHwY
set_option linter.unusedVariables false
set_option linter.unusedSectionVars false
set_option linter.unusedSimpArgs false
set_option maxRecDepth 100000
set_option maxHeartbeats 8000000
namespace Go.Proofs.YtlahbmoebbflbaaGreat
open Go Go.Proofs.YtlahbmoebbflbaaGreat.Hw
theorem noEsc (v : Value) (w : World) : (callFunc 102 #[v]).run Tryz.prog w = .ok (.value v) w := by
  rw [run_callFunc_extern Tryz.func102 (by kernel_rfl) (by kernel_rfl) (by kernel_rfl) (e := Extern.AbiNoEscape.same) (by kernel_rfl), Lib.run_noEscape]
  rfl
theorem infoB : ∃ j, Tryz.prog.info? 114 = some j ∧ j.size ≠ 0 := ⟨_, rfl, by decide⟩
theorem bld_copyCheck.ok {G R F} (b : Nat) (p v : Value) (hp : p = nl ∨ p = pt b 0) : CO Tryz.prog 94 [pt b 0] G R (Blk b (.cells (List.toArray [p, v]) 114 (0, 0)) :: F)
    (Ret fun u R' L' => u = .tuple #[] ∧ R' = R ∧ L' = Blk b (.cells (List.toArray [pt b 0, v]) 114 (0, 0)) :: F) := by
  obtain ⟨j, hj, hj0⟩ := infoB
  refine co_ofN (N := 20) Tryz.func94 rfl rfl ?_
  refine c_seq ?_
  refine c_reg ?_
  refine r_u (o_mv rfl) ?_
  refine r_u (o_nc rfl) ?_
  refine r_u (o_fa fa114_0 rfl) ?_
  refine r_u (o_ld 0 sc112 rfl rfl rfl) ?_
  rcases hp with rfl | rfl
  · refine r_u (o_bin rfl rfl (bP_eqn Tryz.underlying112)) ?_
    refine r_nil ?_
    refine x_seq ?_
    refine c_tt rfl ?_
    refine c_reg ?_
    refine r_u (o_mv rfl) ?_
    refine r_u (o_mv rfl) ?_
    refine r_u (o_tu 0 Tryz.underlying112 Tryz.underlying141 hj hj0 rfl rfl rfl) ?_
    refine r_u (o_same noEsc rfl) ?_
    refine r_u (o_fu 0 Tryz.underlying141 Tryz.underlying112 hj rfl rfl (by kernel_rfl)) ?_
    refine r_u (o_nc rfl) ?_
    refine r_u (o_fa fa114_0 rfl) ?_
    refine r_u0 (o_st sc112 rfl rfl rfl rfl rfl rfl) ?_
    refine r_nil ?_
    refine x_end ?_
    exact x_r0 rfl (Le.refl _) ⟨_, rfl, rfl, rfl, rfl⟩
  · refine r_u (o_bin rfl rfl (bP_eqp Tryz.underlying112)) ?_
    refine r_nil ?_
    refine x_seq ?_
    refine c_ff rfl ?_
    refine c_seq ?_
    refine c_reg ?_
    refine r_u (o_mv rfl) ?_
    refine r_u (o_nc rfl) ?_
    refine r_u (o_fa fa114_0 rfl) ?_
    refine r_u (o_ld 0 sc112 rfl rfl rfl) ?_
    refine r_u (o_mv rfl) ?_
    refine r_u (o_bin rfl rfl (bP_same Tryz.underlying112 hj)) ?_
    refine r_nil ?_
    refine x_seq ?_
    refine c_ff rfl ?_
    refine c_skip ?_
    refine x_end ?_
    exact x_r0 rfl (Le.refl _) ⟨_, rfl, rfl, rfl, rfl⟩

theorem bld_WriteByte.ok {G R F} (b : Nat) (s : Str) (c : UInt8) (r : Str) (hm : apd 1 s [c] = some r) : CO Tryz.prog 69 [pt b 0, vY c] G R (Bld 114 5 b s :: F)
    (Ret fun u R' L' => u = .nilIface ∧ R' = R ∧ L' = Bld 114 5 b r :: F) := by
  refine co_ofN (N := 17) Tryz.func69 rfl rfl ?_
  refine bld_open_cd fun p v hp hv => ?_
  refine c_seq ?_
  refine c_reg ?_
  refine r_u (o_as rfl) ?_
  refine r_nil ?_
  refine x_seq ?_
  refine c_seq ?_
  refine c_reg ?_
  refine r_u (o_mv rfl) ?_
  refine r_c (s_w (o_call ca94 rfl (bld_copyCheck.ok b p v hp))) ?_
  refine r_nil ?_
  refine x_seq ?_
  refine c_seq ?_
  refine c_reg ?_
  refine r_u (o_mv rfl) ?_
  refine r_u (o_mv rfl) ?_
  refine r_u (o_nc rfl) ?_
  refine r_u (o_fa fa114_1 rfl) ?_
  refine r_u (o_ld 0 sc81 rfl rfl rfl) ?_
  refine r_u (o_mv rfl) ?_
  refine r_sw (s_w (o_bsl (en := eY) (sz := 1) (e := 5) (cs := [vY c]) (r := [c]) rfl (fun _ => by kernel_rfl) rfl (by decide) rfl (fun _ => rfl))) ?_
  rintro v2 _ _ _ ⟨rfl, rfl⟩
  refine rl_st (fun _ h => st_pk 3 [2, 0, 1] (by decide) h) ?_
  refine r_sw (s_w (o_ap (sz := 1) (bytes := 1) 0 Tryz.underlying81 rfl rfl rfl rfl rfl (by decide) (by decide) (fun _ _ _ h => by simp at h; subst h; rfl) (fun _ => rfl) rfl rfl rfl rfl (Nat.succ_pos _) hm)) ?_
  rintro v3 _ _ _ ⟨rfl, rfl⟩
  refine r_u (o_nc rfl) ?_
  refine r_u (o_fa fa114_1 rfl) ?_
  refine rl_st (fun _ h => st_pk 3 [2, 0] (by decide) h) ?_
  refine r_u0 (o_stS 1 sc81 rfl rfl rfl rfl rfl rfl) ?_
  refine r_nil ?_
  refine x_seq ?_
  refine c_seq ?_
  refine c_reg ?_
  refine r_u (o_as rfl) ?_
  refine r_nil ?_
  refine x_seq ?_
  refine c_ret ?_
  refine ex_st (fun _ h => bld_close (.inr rfl) (fun e => by unfold apd at hm; split at hm <;> simp_all) h) ?_
  exact x_r1 rfl (rv_t rfl) (Le.refl _) ⟨_, rfl, rfl, rfl, rfl⟩

theorem bld_String.ok {G R F} (b : Nat) (s : Str) : CO Tryz.prog 70 [pt b 0] G R (Bld 114 5 b s :: F)
    (Ret fun u R' L' => u = vS s ∧ R' = R ∧ L' = F) := by
  refine co_ofN (N := 14) Tryz.func70 rfl rfl ?_
  refine bld_open_cd fun p v hp hv => ?_
  refine c_seq ?_
  refine c_reg ?_
  refine r_u (o_as rfl) ?_
  refine r_nil ?_
  refine x_seq ?_
  refine c_seq ?_
  by_cases hs : s = []
  · obtain rfl := hv hs
    subst hs
    refine c_any mixed (effs := []) (V := []) ?_
    refine stage_ext [(0, pt b 0), (1, pt b 0), (2, pt b 1), (3, .slice none 0 0), (4, nl), (5, pt b 0), (6, pt b 0), (7, pt b 1), (8, .slice none 0 0), (9, vI 0), (10, vS []), (11, vS [])] rfl ?_
    refine stage rfl rfl rfl rfl [0, 1, 3, 7, 15, 0, 32, 96, 224, 480, 1023, 2047] [0, 1, 2, 3, 4, 5, 6, 7, 8, 9, 10, 11] [] rfl rfl rfl (qc rfl rfl (s_u (o_mv rfl)) (qc rfl rfl (s_u (o_nc rfl)) (qc rfl rfl (s_u (o_fa fa114_1 rfl)) (qc rfl rfl (s_u (o_ld 0 sc81 rfl rfl rfl)) (qc rfl rfl (s_u (o_sdn rfl)) (qc rfl rfl (s_u (o_mv rfl)) (qc rfl rfl (s_u (o_nc rfl)) (qc rfl rfl (s_u (o_fa fa114_1 rfl)) (qc rfl rfl (s_u (o_ld 0 sc81 rfl rfl rfl)) (qc rfl rfl (s_u (o_lenN Tryz.underlying81 rfl)) (qc rfl rfl (s_u (o_usn rfl rfl)) (qc rfl rfl (s_u (o_as rfl)) qn)))))))))))) en ?_
    intro _
    refine ex_sub (E' := [(2, vS [])]) ⟨rfl, trivial⟩ ?_
    refine x_seq ?_
    refine c_ret ?_
    refine ex_st (fun _ h => st_pk 2 [] (by decide) h) ?_
    exact x_r1 rfl (rv_t rfl) (Le.refl _) ⟨_, rfl, rfl, rfl, rfl⟩
  · refine c_any mixed (effs := [10]) (V := []) ?_
    refine stage_ext [(0, pt b 0), (1, pt b 0), (2, pt b 1), (3, v), (4, pt (sb v) 0), (5, pt b 0), (6, pt b 0), (7, pt b 1), (8, v), (9, vI s.length)] rfl ?_
    refine stage_st (fun _ h => st_pk 2 [1, 0] (by decide) h) ?_
    refine stage rfl rfl rfl rfl [0, 1, 3, 7, 15, 0, 32, 96, 224, 480, 1023, 2047] [0, 1, 2, 3, 4, 5, 6, 7, 8, 9] [10] rfl rfl rfl (qc rfl rfl (s_u (o_mv rfl)) (qc rfl rfl (s_u (o_nc rfl)) (qc rfl rfl (s_u (o_fa fa114_1 rfl)) (qc rfl rfl (s_u (o_ld 1 sc81 rfl rfl rfl)) (qc rfl rfl (s_u (o_sd 0 rfl rfl hs)) (qc rfl rfl (s_u (o_mv rfl)) (qc rfl rfl (s_u (o_nc rfl)) (qc rfl rfl (s_u (o_fa fa114_1 rfl)) (qc rfl rfl (s_u (o_ld 1 sc81 rfl rfl rfl)) (qc rfl rfl (s_u (o_lenO 0 Tryz.underlying81 rfl rfl)) qn)))))))))) ?_ (fun h => absurd h (by decide))
    refine ec (eo_u rfl (s_u (o_us Tryz.underlying134 (by kernel_rfl) rfl rfl rfl hs)) (Le.refl _) ?_) en
    refine stage_ext [(11, vS s)] rfl ?_
    refine stage rfl rfl rfl rfl [0, 1, 3, 7, 15, 0, 32, 96, 224, 480, 1023, 2047] [11] [] rfl rfl rfl (qc rfl rfl (s_u (o_as rfl)) qn) en ?_
    intro _
    refine ex_sub (E' := [(2, vS s)]) ⟨rfl, trivial⟩ ?_
    refine x_seq ?_
    refine c_ret ?_
    refine ex_st (fun _ h => st_pk 1 [] (by decide) h) ?_
    exact x_r1 rfl (rv_t rfl) (Le.refl _) ⟨_, rfl, rfl, rfl, rfl⟩
theorem catch_pan {G : World} {R : PH} {L : List HP} {b : Nat} {n x : Int} {w : World} (hs : St G R (Blk b (.cells (List.toArray [vI x]) 25 (0, 0)) :: L) w) :
    CallsD Tryz.prog 81 #[pt b 0] (.panicking (pch 126 n)) w fun e u' w' => (∃ v, e = .returned v) ∧ u' = .panicking [{ v := .iface 126 (.agg #[vI n]), recovered := true }] ∧ St G R (Blk b (.cells (List.toArray [vI n]) 25 (0, 0)) :: L) w' := by
  refine callsD_of_wpS Tryz.func81 rfl fun c₀ cs hu => ?_
  apply wpS_seq
  refine wpS_rec (v := .iface 126 (.agg #[vI n])) (cs' := { c₀ with mode := .panicking [{ v := .iface 126 (.agg #[vI n]), recovered := true }] } :: cs) (by simp [recoverD, hu, pch]) ?_
  refine wpS_cd (N := 12) (E := [(4, .iface 126 (.agg #[vI n])), (0, pt b 0)]) (C := fun u R' L' => u = .tuple #[] ∧ R' = R ∧ L' = Blk b (.cells (List.toArray [vI n]) 25 (0, 0)) :: L) ?_ ((Fr.enter [pt b 0] 12).put (by simp) _) hs ?_
  · refine c_blk ?_
    refine c_seq ?_
    refine c_reg ?_
    refine r_u (o_bin (v := vB false) rfl rfl (fun _ _ _ => by kernel_rfl)) ?_
    refine r_nil ?_
    refine x_seq ?_
    refine c_ff rfl ?_
    refine c_seq ?_
    refine c_reg ?_
    refine r_u (o_ta (v := .tuple #[.agg #[vI n], .bool true]) rfl (fun _ => by kernel_rfl)) ?_
    refine r_u (o_ext rfl rfl) ?_
    refine r_u (o_ext rfl rfl) ?_
    refine r_nil ?_
    refine x_seq ?_
    refine c_tt rfl ?_
    refine c_seq ?_
    refine c_reg ?_
    refine r_new (o_al ze126) fun b2 => ?_
    refine r_u0 (o_stn ag126 rfl rfl rfl rfl rfl rfl rfl) ?_
    refine r_nil ?_
    refine x_seq ?_
    refine c_reg ?_
    refine r_u (o_fa fa126_0 rfl) ?_
    refine r_u (o_ld 0 sc25 rfl rfl rfl) ?_
    refine rl_st (fun _ h => st_pk 2 [1, 0] (by decide) h) ?_
    refine r_u0 (o_st sc25 rfl rfl rfl rfl rfl rfl) ?_
    refine r_nil ?_
    refine x_blk ?_
    refine x_end ?_
    refine ex_st (fun _ h => st_pk 2 [0] (by decide) h) ?_
    exact x_r0 rfl (Le.refl _) ⟨_, rfl, rfl, rfl, rfl⟩
  · rintro v w' R' L' _ ⟨rfl, rfl, rfl⟩ hst
    exact ⟨⟨_, rfl⟩, rfl, hst⟩
theorem catch_no {G : World} {R : PH} {L : List HP} {b : Nat} {w : World} (hs : St G R L w) :
    CallsD Tryz.prog 81 #[pt b 0] .returning w fun e u' w' => (∃ v, e = .returned v) ∧ u' = .returning ∧ St G R L w' := by
  refine callsD_of_wpS Tryz.func81 rfl fun c₀ cs hu => ?_
  apply wpS_seq
  refine wpS_rec0 (by simp [recoverD, hu]) ?_
  have e0 : c₀ = { c₀ with mode := .returning } := by cases c₀; simp_all
  refine wpS_cd (N := 12) (E := [(4, .nilIface), (0, pt b 0)]) (C := fun u R' L' => u = .tuple #[] ∧ R' = R ∧ L' = L) (u1 := .returning) ?_ ((Fr.enter [pt b 0] 12).put (by simp) _) hs ?_ e0
  · refine c_blk ?_
    refine c_seq ?_
    refine c_reg ?_
    refine r_u (o_binc (r := vB true) rfl rfl (fun _ => by kernel_rfl)) ?_
    refine r_nil ?_
    refine x_seq ?_
    refine c_tt rfl ?_
    refine c_reg ?_
    refine r_u (o_as rfl) ?_
    refine r_nil ?_
    refine x_blk ?_
    refine x_end ?_
    exact x_r0 rfl (Le.refl _) ⟨_, rfl, rfl, rfl, rfl⟩
  · rintro v w' R' L' _ ⟨rfl, rfl, rfl⟩ hst
    exact ⟨⟨_, rfl⟩, rfl, hst⟩

/-- The end of wire.Read, behind a deferred call that found nothing. -/
theorem read_leaves {G : World} {R : PH} {M : List HP} {b : Nat} {n : Int} {w : World} {tmps : Array Value} {K : Ending → PH → List HP → Prop} {q : HP}
    (ht : tmps[4]? = some (pt b 0)) (hs : St G R (Blk b (.cells (List.toArray [vI n]) 25 (0, 0)) :: q :: M) w) (hK : K (.returned (vI n)) R M) :
    Leaves Tryz.prog Tryz.f60 tmps (Post G R K) [{ target := .fn (.func 81) #[pt b 0], args := #[] }] .returning w := by
  refine leaves_cons (f := 81) (args := #[pt b 0]) (by simp) (by simp [go_sem]) ?_
  refine (catch_no hs).mono ?_
  rintro e u' w'' ⟨⟨v, rfl⟩, rfl, h⟩
  have hb := h.blk (i := 0) rfl
  have hc : w''.cell? ⟨b, 0, none⟩ = some (vI n) := by simp [World.cell?, hb]
  have ht' : tmps.getD 4 undef = pt b 0 := by simp [Array.getD_eq_getD_getElem?, ht]
  refine ⟨vI n, ?_, R, M, Le.refl _, hK, h.drop.drop⟩
  simp [results, Tryz.results60, ht, ht', go_sem, hc]
theorem read_panics {G : World} {R : PH} {M : List HP} {b : Nat} {x n : Int} {w : World} {tmps : Array Value} {K : Ending → PH → List HP → Prop} {q : HP}
    (ht : tmps[4]? = some (pt b 0)) (hs : St G R (Blk b (.cells (List.toArray [vI x]) 25 (0, 0)) :: q :: M) w) (hK : K (.returned (vI n)) R M) :
    Leaves Tryz.prog Tryz.f60 tmps (Post G R K) [{ target := .fn (.func 81) #[pt b 0], args := #[] }] (.panicking (pch 126 n)) w := by
  refine leaves_cons (f := 81) (args := #[pt b 0]) (by simp) (by simp [go_sem]) ?_
  refine (catch_pan (n := n) hs).mono ?_
  rintro e u' w'' ⟨⟨v, rfl⟩, rfl, h⟩
  have hb := h.blk (i := 0) rfl
  have hc : w''.cell? ⟨b, 0, none⟩ = some (vI n) := by simp [World.cell?, hb]
  have ht' : tmps.getD 4 undef = pt b 0 := by simp [Array.getD_eq_getD_getElem?, ht]
  refine ⟨vI n, ?_, R, M, Le.refl _, hK, h.drop.drop⟩
  simp [results, Tryz.results60, ht, ht', go_sem, hc]

theorem wire_Read.okL {G : World} {R : PH} {A M : List HP} {F : List HP} {s s' : Str} {fc : Nat} {caps : List Value}
    (hc : Ca Tryz.prog fc)
    (h : ∀ b F, CO Tryz.prog fc (pt b 0 :: caps) G R (Blk b (.cells (List.toArray [vS s]) 128 (0, 0)) :: (A ++ F)) (PRet 126 (fun u R' L' => u = .tuple #[] ∧ R' = R ∧ L' = Blk b (.cells (List.toArray [vS s']) 128 (0, 0)) :: (M ++ F)) fun _ _ _ => False)) :
    CO Tryz.prog 60 [vS s, .func (.func fc) #[] caps.toArray] G R (A ++ F) (Ret fun u R' L' => u = vI (if s' == [] then 0 else 5) ∧ R' = R ∧ L' = M ++ F) := by
  intro w hs
  have hmf : ∀ (fn : Fn) (first cap : Array Value) (w : World), (Instr.makeFunc fn first cap).run Tryz.prog w = .ok (.func fn first cap) w := fun _ _ _ _ => rfl
  have hst : St G R (Blk (w.heap.size + 1) (.cells (List.toArray [vS s]) 128 (0, 0)) :: Blk w.heap.size (.cells (List.toArray [vI 0]) 25 (0, 0)) :: (A ++ F)) ((w.alloc (.cells #[Value.int .i64 0] 25)).alloc (.cells #[vS s] 128)) := by
    have h1 := hs.alloc (.cells #[Value.int .i64 0] 25)
    have h2 := h1.alloc (.cells #[vS s] 128)
    simpa [vI] using h2
  have hst2 := st_mid hst
  have hcall := h (w.heap.size + 1) _ _ hst2
  unfold vS at *
  go_enter_defers Tryz.func60, Tryz.ntmps60
  go_wp2
  rw [hc]
  simp only [Oper.upon]
  refine hcall.mono ?_
  rintro e w' ⟨R', L', hR, hq | ⟨n, rfl, hn⟩, hst'⟩
  case inr => exact hn.elim
  obtain ⟨v, rfl, rfl, rfl, rfl⟩ := hq
  have st3 := st_mid' hst'
  have hb0 := st3.blk (i := 0) rfl
  have hb1 := st3.blk (i := 1) rfl
  have hc1 : w'.cell? ⟨w.heap.size + 1, 0, none⟩ = some (.string ⟨s'.toArray⟩) := by simp [World.cell?, hb1]
  have hc0 : w'.cell? ⟨w.heap.size, 0, none⟩ = some (.int .i64 0) := by simp [World.cell?, hb0, vI]
  have hf0 : w'.frozen? ⟨w.heap.size, 0, none⟩ = false := by simp [World.frozen?, hb0]
  by_cases hs' : s' = []
  · subst hs'
    go_wp2
    exact read_leaves rfl (st3.upd (upd_set hb0)) ⟨_, rfl, rfl, rfl, rfl⟩
  · have hne : (s' == []) = false := by simpa using hs'
    have hie : s'.isEmpty = false := by simpa using hs'
    go_wp2
    all_goals first | exact read_leaves rfl (st3.upd (upd_set hb0)) ⟨_, rfl, by simp, rfl, rfl⟩ | exact read_leaves rfl (st3.upd (upd_set hb0)) ⟨_, rfl, by simp [hne], rfl, rfl⟩ | (exfalso; simp_all; done)
theorem wire_Read.okR {G : World} {R : PH} {A M : List HP} {F : List HP} {s : Str} {cs : List Value} {n0 : Int} {fc : Nat} {caps : List Value}
    (hc : Ca Tryz.prog fc)
    (h : ∀ b F, CO Tryz.prog fc (pt b 0 :: caps) G R (Blk b (.cells (List.toArray [vS s]) 128 (0, 0)) :: (A ++ F)) (PRet 126 (fun _ _ _ => False) fun n R' L' => n = n0 ∧ R' = R ∧ L' = Blk b (.cells (List.toArray cs) 128 (0, 0)) :: (M ++ F))) :
    CO Tryz.prog 60 [vS s, .func (.func fc) #[] caps.toArray] G R (A ++ F) (Ret fun u R' L' => u = vI n0 ∧ R' = R ∧ L' = M ++ F) := by
  intro w hs
  have hmf : ∀ (fn : Fn) (first cap : Array Value) (w : World), (Instr.makeFunc fn first cap).run Tryz.prog w = .ok (.func fn first cap) w := fun _ _ _ _ => rfl
  have hst : St G R (Blk (w.heap.size + 1) (.cells (List.toArray [vS s]) 128 (0, 0)) :: Blk w.heap.size (.cells (List.toArray [vI 0]) 25 (0, 0)) :: (A ++ F)) ((w.alloc (.cells #[Value.int .i64 0] 25)).alloc (.cells #[vS s] 128)) := by
    have h1 := hs.alloc (.cells #[Value.int .i64 0] 25)
    have h2 := h1.alloc (.cells #[vS s] 128)
    simpa [vI] using h2
  have hst2 := st_mid hst
  have hcall := h (w.heap.size + 1) _ _ hst2
  unfold vS at *
  go_enter_defers Tryz.func60, Tryz.ntmps60
  go_wp2
  rw [hc]
  simp only [Oper.upon]
  refine hcall.mono ?_
  rintro e w' ⟨R', L', hR, ⟨v, rfl, hn⟩ | ⟨n, rfl, rfl, rfl, rfl⟩, hst'⟩
  case inl => exact hn.elim
  exact read_panics rfl (st_mid' hst') ⟨_, rfl, rfl, rfl, rfl⟩
structure hawthornlaw08_Act where
  Kind : Int
  Key : Str
  deriving DecidableEq, Inhabited
def hawthornlaw08_Act.c (x : hawthornlaw08_Act) : List _root_.Go.Value := [vI x.Kind, vS x.Key]
abbrev hawthornlaw08_Act.v (x : hawthornlaw08_Act) : _root_.Go.Value := .agg (hawthornlaw08_Act.c x).toArray
structure sketch_Sketch where
  wide : Int
  seed : UInt64
  rows : List (List UInt8)
  door : List Bool
  added : Int
  deriving DecidableEq, Inhabited
structure sketch_Sketch.G where
  rows : _root_.Go.Value × _root_.Go.Value × _root_.Go.Value × _root_.Go.Value
  door : _root_.Go.Value

instance : Inhabited sketch_Sketch.G := ⟨⟨(nl, nl, nl, nl), nl⟩⟩
def sketch_Sketch.fl (b : Nat) (x : sketch_Sketch) (g : sketch_Sketch.G) : List HP := [Bk b 84 [vI x.wide, vW x.seed, g.rows.1, g.rows.2.1, g.rows.2.2.1, g.rows.2.2.2, g.door, vI x.added], OwL (OwS false 5 1 eY) [g.rows.1, g.rows.2.1, g.rows.2.2.1, g.rows.2.2.2] x.rows, OwS true 4 1 eB g.door x.door]
def sketch_Sketch.op (g : sketch_Sketch.G) : Nat → sketch_Sketch → HP := fun b x => star (sketch_Sketch.fl b x g)
structure ring_slot where
  key : Str
  list : Int
  prev : Int
  next : Int
  deriving DecidableEq, Inhabited
def ring_slot.c (x : ring_slot) : List _root_.Go.Value := [vS x.key, vI x.list, vI x.prev, vI x.next]
abbrev ring_slot.v (x : ring_slot) : _root_.Go.Value := .agg (ring_slot.c x).toArray
structure ring_Rings where
  lists : Int
  slots : List ring_slot
  free : List Int
  at_ : List (Str × Int)
  many : List Int
  deriving DecidableEq, Inhabited
structure ring_Rings.G where
  slots : _root_.Go.Value
  free : _root_.Go.Value
  at_ : _root_.Go.Value
  many : _root_.Go.Value

instance : Inhabited ring_Rings.G := ⟨⟨nl, nl, nl, nl⟩⟩
def ring_Rings.fl (b : Nat) (x : ring_Rings) (g : ring_Rings.G) : List HP := [Bk b 89 [vI x.lists, g.slots, g.free, g.at_, g.many], OwS true 91 4 ring_slot.c g.slots x.slots, OwS true 3 1 eI g.free x.free, OwM vS vI g.at_ x.at_, OwS true 3 1 eI g.many x.many]
def ring_Rings.op (g : ring_Rings.G) : Nat → ring_Rings → HP := fun b x => star (ring_Rings.fl b x g)
structure tiny_Tiny where
  most : Int
  s : Option sketch_Sketch
  r : Option ring_Rings
  deriving DecidableEq, Inhabited
structure tiny_Tiny.G where
  s : _root_.Go.Value × sketch_Sketch.G
  r : _root_.Go.Value × ring_Rings.G

instance : Inhabited tiny_Tiny.G := ⟨⟨(nl, default), (nl, default)⟩⟩
def tiny_Tiny.fl (b : Nat) (x : tiny_Tiny) (g : tiny_Tiny.G) : List HP := [Bk b 57 [vI x.most, g.s.1, g.r.1], rO (sketch_Sketch.op g.s.2) g.s.1 x.s, rO (ring_Rings.op g.r.2) g.r.1 x.r]
def tiny_Tiny.op (g : tiny_Tiny.G) : Nat → tiny_Tiny → HP := fun b x => star (tiny_Tiny.fl b x g)
structure hawthornref05_Sketch where
  Wide : Int
  Seed : UInt64
  Rows : List (List Int)
  Door : List Bool
  Added : Int
  deriving DecidableEq, Inhabited
structure hawthornref05_Sketch.G where
  Rows : _root_.Go.Value × List _root_.Go.Value
  Door : _root_.Go.Value

instance : Inhabited hawthornref05_Sketch.G := ⟨⟨(nl, []), nl⟩⟩
def hawthornref05_Sketch.fl (b : Nat) (x : hawthornref05_Sketch) (g : hawthornref05_Sketch.G) : List HP := [Bk b 31 [vI x.Wide, vW x.Seed, g.Rows.1, g.Door, vI x.Added], OwS true 86 1 eV g.Rows.1 g.Rows.2, OwL (OwS true 3 1 eI) g.Rows.2 x.Rows, OwS true 4 1 eB g.Door x.Door]
def hawthornref05_Sketch.op (g : hawthornref05_Sketch.G) : Nat → hawthornref05_Sketch → HP := fun b x => star (hawthornref05_Sketch.fl b x g)
def hawthornref05_Sketch.ro (R : PH) (x : hawthornref05_Sketch) (g : hawthornref05_Sketch.G) : Prop := (RoN R g.Rows.1 1 (fun x => [vI x]) x.Rows) ∧ (RoS R g.Door 1 (fun x => [vB x]) x.Door)
structure hawthornref06_Rings where
  L : List (List Str)
  Places : Int
  deriving DecidableEq, Inhabited
structure hawthornref06_Rings.G where
  L : _root_.Go.Value × List _root_.Go.Value

instance : Inhabited hawthornref06_Rings.G := ⟨⟨(nl, [])⟩⟩
def hawthornref06_Rings.fl (b : Nat) (x : hawthornref06_Rings) (g : hawthornref06_Rings.G) : List HP := [Bk b 34 [g.L.1, vI x.Places], OwS true 60 1 eV g.L.1 g.L.2, OwL (OwS true 9 1 eS) g.L.2 x.L]
def hawthornref06_Rings.op (g : hawthornref06_Rings.G) : Nat → hawthornref06_Rings → HP := fun b x => star (hawthornref06_Rings.fl b x g)
def hawthornref06_Rings.ro (R : PH) (x : hawthornref06_Rings) (g : hawthornref06_Rings.G) : Prop := RoN R g.L.1 1 (fun x => [vS x]) x.L
structure hawthornref08_Tiny where
  Most : Int
  S : hawthornref05_Sketch
  R : hawthornref06_Rings
  deriving DecidableEq, Inhabited
structure hawthornref08_Tiny.G where
  S : hawthornref05_Sketch.G
  R : hawthornref06_Rings.G

instance : Inhabited hawthornref08_Tiny.G := ⟨⟨default, default⟩⟩
def hawthornref08_Tiny.fl (b : Nat) (x : hawthornref08_Tiny) (g : hawthornref08_Tiny.G) : List HP := [Bk b 36 [vI x.Most, vI x.S.Wide, vW x.S.Seed, g.S.Rows.1, g.S.Door, vI x.S.Added, g.R.L.1, vI x.R.Places], OwS true 86 1 eV g.S.Rows.1 g.S.Rows.2, OwL (OwS true 3 1 eI) g.S.Rows.2 x.S.Rows, OwS true 4 1 eB g.S.Door x.S.Door, OwS true 60 1 eV g.R.L.1 g.R.L.2, OwL (OwS true 9 1 eS) g.R.L.2 x.R.L]
def hawthornref08_Tiny.op (g : hawthornref08_Tiny.G) : Nat → hawthornref08_Tiny → HP := fun b x => star (hawthornref08_Tiny.fl b x g)
def hawthornref08_Tiny.ro (R : PH) (x : hawthornref08_Tiny) (g : hawthornref08_Tiny.G) : Prop := (hawthornref05_Sketch.ro R x.S g.S) ∧ (hawthornref06_Rings.ro R x.R g.R)
structure api_Parts where
  Window : Int
  Protected : Int
  deriving DecidableEq, Inhabited
def api_Parts.c (x : api_Parts) : List _root_.Go.Value := [vI x.Window, vI x.Protected]
abbrev api_Parts.v (x : api_Parts) : _root_.Go.Value := .agg (api_Parts.c x).toArray
structure wire_Reader where
  s : Str
  deriving DecidableEq, Inhabited
def wire_Reader.c (x : wire_Reader) : List _root_.Go.Value := [vS x.s]
abbrev wire_Reader.v (x : wire_Reader) : _root_.Go.Value := .agg (wire_Reader.c x).toArray
structure wire_bad where
  e : Int
  deriving DecidableEq, Inhabited
def wire_bad.c (x : wire_bad) : List _root_.Go.Value := [vI x.e]
abbrev wire_bad.v (x : wire_bad) : _root_.Go.Value := .agg (wire_bad.c x).toArray


def wire_Num_l0  : Nat → UInt64 → Str → Option (UInt64 × Str)
  | 0, _, _ => none
  | k9 + 1, n_7, c_8 => if decide (128 ≤ n_7) then (apd 1 c_8 [((n_7 % 128).toUInt8) + 128]).bind fun l14 => wire_Num_l0 k9 (n_7 / 128) l14 else some (n_7, c_8)
def wire_Num (a0 : UInt64) : Option Str :=
  Option.bind (wire_Num_l0 11 a0 []) fun p1 => (apd 1 p1.2 [p1.1.toUInt8]).bind fun l5 => some l5
theorem wire_Num.ok {G R F} (a0 : UInt64) (r : Str) (hm : wire_Num a0 = some r) : CO Tryz.prog 42 [vW a0] G R (F)
    (Ret fun u R' L' => u = vS r ∧ R' = R ∧ L' = F) := by
  unfold wire_Num at hm
  refine co_ofN (N := 17) Tryz.func42 rfl rfl ?_
  refine c_seq ?_
  refine c_reg ?_
  refine r_u (o_as rfl) ?_
  refine r_nil ?_
  refine x_seq ?_
  refine c_seq ?_
  refine c_reg ?_
  refine r_new (o_al ze114) fun b0 => ?_
  refine rl_st (fun _ h => bld_new (e := 5) h) ?_
  refine r_nil ?_
  refine x_seq ?_
  refine c_seq ?_
  obtain ⟨p1, hp2, hm3⟩ := bs hm
  refine cd_join (E' := [(3, pt b0 0), (0, vW p1.1)]) (L' := Bld 114 5 b0 p1.2 :: F) ?_ fun K4 => ?_
  · refine x_seq ?_
    refine c_seq ?_
    refine c_reg ?_
    refine r_u (o_mv rfl) ?_
    refine r_u (o_cv rfl (cWY Tryz.underlying22 Tryz.underlying5 p1.1)) ?_
    obtain ⟨l5, hl5, hm6⟩ := bs hm3
    clear hm3
    refine r_c (s_w (o_call ca69 rfl (bld_WriteByte.ok b0 p1.2 p1.1.toUInt8 _ hl5))) ?_
    refine r_nil ?_
    refine x_seq ?_
    refine c_seq ?_
    refine c_reg ?_
    refine r_c (s_w (o_call ca70 rfl (bld_String.ok b0 l5))) ?_
    refine r_u (o_as rfl) ?_
    refine r_nil ?_
    refine x_seq ?_
    refine c_ret ?_
    obtain rfl := Option.some.inj hm6
    exact x_r1 rfl (rv_t rfl) (Le.refl _) ⟨_, rfl, rfl, rfl, rfl⟩
  · refine c_blk ?_
    refine cd_loop (M := fun k9 (s : UInt64 × Str) => wire_Num_l0 k9 s.1 s.2 = some p1) (Ef := fun (s : UInt64 × Str) => [(3, pt b0 0), (0, vW s.1)]) (Lf := fun (s : UInt64 × Str) => Bld 114 5 b0 s.2 :: F) 11 (a0, []) hp2 ⟨rfl, rfl, trivial⟩ (fun _ h => h) (fun _ h => by cases h) fun k9 s hM11 => ?_
    obtain ⟨n_7, c_8⟩ := s
    have hm10 : wire_Num_l0 (k9 + 1) n_7 c_8 = some p1 := hM11
    rw [wire_Num_l0] at hm10
    refine c_seq ?_
    refine c_seq ?_
    refine c_reg ?_
    refine r_u (o_mv rfl) ?_
    refine r_u (o_bin rfl rfl (bW_ge n_7 128)) ?_
    refine r_nil ?_
    refine x_seq ?_
    refine c_if (b := decide (128 ≤ n_7)) rfl (fun h12 => ?_) fun h12 => ?_
    · have hm13 := ift hm10 h12
      clear hm10
      refine c_skip ?_
      refine x_seq ?_
      refine c_seq ?_
      refine c_blk ?_
      refine c_reg ?_
      refine r_u (o_mv rfl) ?_
      refine r_u (o_bin rfl rfl (bW_rem n_7 128 (by decide))) ?_
      refine r_u (o_cv rfl (cWY Tryz.underlying22 Tryz.underlying5 (n_7 % 128))) ?_
      refine r_u (o_bin rfl rfl (bY_add ((n_7 % 128).toUInt8) 128)) ?_
      obtain ⟨l14, hl14, hm15⟩ := bs hm13
      clear hm13
      refine r_c (s_w (o_call ca69 rfl (bld_WriteByte.ok b0 c_8 (((n_7 % 128).toUInt8) + 128) _ hl14))) ?_
      refine r_nil ?_
      refine x_blk ?_
      refine x_seq ?_
      refine c_reg ?_
      refine r_u (o_mv rfl) ?_
      refine r_u (o_bin rfl rfl (bW_quo n_7 128 (by decide))) ?_
      refine r_u (o_as rfl) ?_
      refine r_nil ?_
      exact x_lp (n_7 / 128, l14) hm15 ⟨rfl, rfl, trivial⟩ (fun _ h => st_pk 1 [0] (by decide) h)
    · have hm13 := iff_ hm10 h12
      clear hm10
      refine c_exit (x_exit (ks' := _) rfl ?_)
      obtain rfl := Option.some.inj hm13
      exact x_sub K4 ⟨rfl, rfl, trivial⟩ (fun _ h => st_pk 1 [0] (by decide) h)

def wire_Text (a0 : Str) : Option Str :=
  (wire_Num (toW (a0.length : Int))).bind fun r0 => if r0.length + a0.length ≤ maxS then some (r0 ++ a0) else none
theorem wire_Text.ok {G R F} (a0 : Str) (r : Str) (hm : wire_Text a0 = some r) : CO Tryz.prog 72 [vS a0] G R (F)
    (Ret fun u R' L' => u = vS r ∧ R' = R ∧ L' = F) := by
  unfold wire_Text at hm
  refine co_ofN (N := 9) Tryz.func72 rfl rfl ?_
  refine c_seq ?_
  refine c_reg ?_
  refine r_u (o_as rfl) ?_
  refine r_nil ?_
  refine x_seq ?_
  refine c_seq ?_
  refine c_reg ?_
  refine r_u (o_mv rfl) ?_
  refine r_u (o_lenS Tryz.underlying9 rfl) ?_
  refine r_u (o_cv rfl (cIW Tryz.underlying3 Tryz.underlying22 (a0.length : Int))) ?_
  obtain ⟨r0, hr0, hm1⟩ := bs hm
  clear hm
  refine r_u (o_callq ca42 rfl (wire_Num.ok (toW (a0.length : Int)) r0 hr0)) ?_
  refine r_u (o_mv rfl) ?_
  obtain ⟨h2, hm3⟩ := ig hm1
  clear hm1
  refine r_u (o_bin rfl rfl (bS_add r0 a0 h2)) ?_
  refine r_u (o_as rfl) ?_
  refine r_nil ?_
  refine x_seq ?_
  refine c_ret ?_
  obtain rfl := Option.some.inj hm3
  exact x_r1 rfl (rv_t rfl) (Le.refl _) ⟨_, rfl, rfl, rfl, rfl⟩

def tiny_wide (a0 : Int) : Int :=
  (if 4096 < (i64 (8 * a0)) then 4096 else i64 (8 * a0))
theorem tiny_wide.ok {G R F} (a0 : Int) (r : Int) (hm : tiny_wide a0 = r) : CO Tryz.prog 17 [vI a0] G R (F)
    (Ret fun u R' L' => u = vI r ∧ R' = R ∧ L' = F) := by
  unfold tiny_wide at hm
  refine co_ofN (N := 6) Tryz.func17 rfl rfl ?_
  refine c_seq ?_
  refine c_reg ?_
  refine r_u (o_as rfl) ?_
  refine r_nil ?_
  refine x_seq ?_
  refine c_seq ?_
  refine c_reg ?_
  refine r_u (o_mv rfl) ?_
  refine r_u (o_bin rfl rfl (bI_mul 8 a0)) ?_
  refine r_u (o_minI rfl rfl) ?_
  refine r_u (o_as rfl) ?_
  refine r_nil ?_
  refine x_seq ?_
  refine c_ret ?_
  subst hm
  exact x_r1 rfl (rv_t rfl) (Le.refl _) ⟨_, rfl, rfl, rfl, rfl⟩

def sketch_New_l0 (a0 : Int) : Nat → Int → (List (List UInt8)) → Option (List (List UInt8))
  | 0, _, _ => none
  | k14 + 1, s_11, c_12 => if decide (s_11 < 4) then (mks 1 a0 (0 : UInt8)).bind fun l20 => (gi c_12 s_11).bind fun y22 => sketch_New_l0 a0 k14 (i64 (s_11 + 1)) (ls c_12 s_11 l20) else some c_12
def sketch_New (a0 : Int) (a1 : UInt64) : Option (Option sketch_Sketch × Int) :=
  if (decide (a0 < 1) || decide (4096 < a0)) then some (none, 1) else (mks 1 a0 (false : Bool)).bind fun l3 => Option.bind (sketch_New_l0 a0 5 0 [[], [], [], []]) fun p6 => some ((some (⟨a0, a1, p6, l3, 0⟩ : sketch_Sketch)), 0)
theorem sketch_New.ok {G R F} (a0 : Int) (a1 : UInt64) (r : Option sketch_Sketch × Int) (hm : sketch_New a0 a1 = some r) : CO Tryz.prog 16 [vI a0, vW a1] G R (F)
    (Ret fun u R' L' => ∃ (p0 : Value × sketch_Sketch.G), u = .tuple #[p0.1, vI r.2] ∧ R' = R ∧ L' = rO (sketch_Sketch.op p0.2) p0.1 r.1 :: F) := by
  unfold sketch_New at hm
  refine co_ofN (N := 32) Tryz.func16 rfl rfl ?_
  refine c_seq ?_
  refine c_reg ?_
  refine r_u (o_as rfl) ?_
  refine r_u (o_as rfl) ?_
  refine r_nil ?_
  refine x_seq ?_
  refine c_seq ?_
  refine c_seq ?_
  refine c_reg ?_
  refine r_u (o_mv rfl) ?_
  refine r_u (o_bin rfl rfl (bI_lt a0 1)) ?_
  refine r_u (o_mv rfl) ?_
  refine r_s (s_gf rfl rfl fun g => o_mv rfl) ?_
  refine r_s (s_gf rfl rfl fun g => o_bin (evg rfl g) rfl (bI_gt a0 4096)) ?_
  refine r_u (o_or rfl rfl) ?_
  refine r_nil ?_
  refine x_seq ?_
  refine c_if (b := (decide (a0 < 1) || decide (4096 < a0))) rfl (fun h0 => ?_) fun h0 => ?_
  · have hm1 := ift hm h0
    clear hm
    refine c_seq ?_
    refine c_reg ?_
    refine r_u (o_as rfl) ?_
    refine r_u (o_as rfl) ?_
    refine r_nil ?_
    refine x_seq ?_
    refine c_ret ?_
    refine ex_st (fun _ h => st_none (f := sketch_Sketch.op default) h) ?_
    obtain rfl := Option.some.inj hm1
    exact x_r2 rfl (rv_t rfl) (rv_t rfl) (Le.refl _) ⟨_, rfl, (nl, default), rfl, rfl, rfl⟩
  · have hm1 := iff_ hm h0
    clear hm
    refine c_skip ?_
    refine x_seq ?_
    refine c_seq ?_
    refine c_reg ?_
    refine r_u (o_mv rfl) ?_
    refine r_u (o_mv rfl) ?_
    refine r_u (o_mv rfl) ?_
    obtain ⟨l3, hl3, hm4⟩ := bs hm1
    clear hm1
    refine r_sw (s_w (o_mk (sz := 1) (bytes := 1) (e := 4) (en := eB) Tryz.underlying29 rfl rfl rfl rfl rfl rfl rfl rfl rfl hl3)) ?_
    rintro v2 R _ _ ⟨rfl, rfl⟩
    refine r_u (ou_if (hd_o 0 rfl) fun hb0 => o_bld [vI a0, vW a1, .slice none 0 0, .slice none 0 0, .slice none 0 0, .slice none 0 0, v2, vI 0] rfl (fun _ => by obtain ⟨_, _, rfl⟩ := hb0; kernel_rfl)) ?_
    refine r_new (o_bx [vI a0, vW a1, .slice none 0 0, .slice none 0 0, .slice none 0 0, .slice none 0 0, v2, vI 0] rfl rfl) fun b5 => ?_
    refine r_u (o_as rfl) ?_
    refine r_nil ?_
    refine x_seq ?_
    refine c_seq ?_
    refine c_seq ?_
    refine c_reg ?_
    refine r_u (o_mv rfl) ?_
    refine r_nil ?_
    refine x_seq ?_
    obtain ⟨p6, hp8, hm9⟩ := bs hm4
    refine cd_cut (fun x ks => ∀ (g7 : Value × Value × Value × Value), EX x .normal ks [(6, pt b5 0)] R (Bk b5 84 [vI a0, vW a1, g7.1, g7.2.1, g7.2.2.1, g7.2.2.2, v2, vI 0] :: OwS true 4 1 eB v2 l3 :: OwL (OwS false 5 1 eY) [g7.1, g7.2.1, g7.2.2.1, g7.2.2.2] p6 :: F)) ?_ fun K10 => ?_
    · intro g7
      refine x_seq ?_
      refine c_seq ?_
      refine c_reg ?_
      refine r_u (o_mv rfl) ?_
      refine r_u (o_as rfl) ?_
      refine r_u (o_as rfl) ?_
      refine r_nil ?_
      refine x_seq ?_
      refine c_ret ?_
      refine ex_st (fun _ h => mv2 (mv2 (mv1 h))) ?_
      refine ex_st (fun _ h => st_some (f := sketch_Sketch.op (⟨g7, v2⟩ : sketch_Sketch.G)) (a := (⟨a0, a1, p6, l3, 0⟩ : sketch_Sketch)) (st_star_f (A := sketch_Sketch.fl b5 (⟨a0, a1, p6, l3, 0⟩ : sketch_Sketch) (⟨g7, v2⟩ : sketch_Sketch.G)) h)) ?_
      obtain rfl := Option.some.inj hm9
      exact x_r2 rfl (rv_t rfl) (rv_t rfl) (Le.refl _) ⟨_, rfl, (pt b5 0, (⟨g7, v2⟩ : sketch_Sketch.G)), rfl, rfl, rfl⟩
    · refine c_blk ?_
      refine cd_st (fun _ h => st_lnil4 (own := OwS false 5 1 eY) (fun _ => OwS.nil) h) ?_
      refine cd_loopG (M := fun k14 (s : Int × List (List UInt8) × (Value × Value × Value × Value)) => sketch_New_l0 a0 k14 s.1 s.2.1 = some p6) (Ef := fun (s : Int × List (List UInt8) × (Value × Value × Value × Value)) => [(0, vI a0), (6, pt b5 0), (20, vI s.1)]) (Rf := fun (s : Int × List (List UInt8) × (Value × Value × Value × Value)) => R) (Lf := fun (s : Int × List (List UInt8) × (Value × Value × Value × Value)) => Bk b5 84 [vI a0, vW a1, s.2.2.1, s.2.2.2.1, s.2.2.2.2.1, s.2.2.2.2.2, v2, vI 0] :: OwS true 4 1 eB v2 l3 :: OwL (OwS false 5 1 eY) [s.2.2.1, s.2.2.2.1, s.2.2.2.2.1, s.2.2.2.2.2] s.2.1 :: F) 5 (0, [[], [], [], []], (.slice none 0 0, .slice none 0 0, .slice none 0 0, .slice none 0 0)) hp8 ⟨rfl, rfl, rfl, trivial⟩ (fun _ h => st_pk 3 [1, 2, 0] (by decide) h) (fun _ h => by cases h) fun k14 s hM16 => ?_
      obtain ⟨s_11, c_12, g13⟩ := s
      have hm15 : sketch_New_l0 a0 (k14 + 1) s_11 c_12 = some p6 := hM16
      rw [sketch_New_l0] at hm15
      refine c_seq ?_
      refine c_reg ?_
      refine r_u (o_bin rfl rfl (bI_lt s_11 4)) ?_
      refine r_nil ?_
      refine x_seq ?_
      refine c_seq ?_
      refine c_if (b := decide (s_11 < 4)) rfl (fun h17 => ?_) fun h17 => ?_
      · have hm18 := ift hm15 h17
        clear hm15
        refine c_skip ?_
        refine x_seq ?_
        refine c_seq ?_
        refine c_blk ?_
        refine c_seq ?_
        refine c_reg ?_
        refine r_u (o_mv rfl) ?_
        refine r_u (o_as rfl) ?_
        refine r_nil ?_
        refine x_seq ?_
        obtain ⟨l20, hl20, hm21⟩ := bs hm18
        clear hm18
        obtain ⟨y22, hy22, hm24⟩ := bs hm21
        clear hm21
        refine cd_ex (fun w h => st_peek 2 hy22 rfl w h) fun u23 hu23 => ?_
        refine c_any mixed (effs := [3, 7]) (V := []) ?_
        refine stage_ext [(0, pt b5 0), (1, vI s_11), (2, vI a0), (4, pt b5 0), (5, pt b5 2)] rfl ?_
        refine stage rfl rfl rfl rfl [0, 0, 0, 4, 1, 17, 63, 127] [0, 1, 2, 4, 5] [3] rfl rfl rfl (qc rfl rfl (s_u (o_mv rfl)) (qc rfl rfl (s_u (o_mv rfl)) (qc rfl rfl (s_u (o_mv rfl)) (qc rfl rfl (s_u (o_nc rfl)) (qc rfl rfl (s_u (o_fa fa84_2 rfl)) qn))))) ?_ (fun h => absurd h (by decide))
        refine ec (eo_w rfl (s_w (o_mk (sz := 1) (bytes := 1) (e := 5) (en := eY) Tryz.underlying81 rfl rfl rfl rfl rfl rfl rfl rfl rfl hl20)) ?_) en
        rintro v19 R _ _ ⟨rfl, rfl⟩
        refine stage_st (fun _ h => st_weak h) ?_
        refine stage_st (fun _ h => mv2 (mv3 h)) ?_
        refine stage_ext [(6, pt b5 (2 + s_11.toNat * 1))] rfl ?_
        refine stage rfl rfl rfl rfl [0, 0, 0, 4, 1, 17, 63, 127] [0, 1, 4, 5, 6] [7] rfl rfl rfl (qc rfl rfl (s_u (o_mv rfl)) (qc rfl rfl (s_u (o_mv rfl)) (qc rfl rfl (s_u (o_nc rfl)) (qc rfl rfl (s_u (o_fa fa84_2 rfl)) (qc rfl rfl (s_u (o_ixA (sz := 1) Tryz.underlying82 (fun _ => by kernel_rfl) rfl rfl (gi_some hu23).1)) qn))))) ?_ (fun h => absurd h (by decide))
        refine ec (eo_w rfl (s_w (ow_if (one_o 2 rfl) fun ho => o_stA4 (A := [vI a0, vW a1]) (B := [v2, vI 0]) hy22 hu23 sc81 rfl rfl rfl ho)) ?_) en
        rintro _ R _ _ ⟨p25, p26, p27, p28, rfl, rfl, rfl⟩
        refine stage rfl rfl rfl rfl [0, 0, 0, 4, 1, 17, 63, 127] [] [] rfl rfl rfl qn en ?_
        intro _
        refine ex_sub (E' := [(0, vI a0), (6, pt b5 0), (20, vI s_11)]) ⟨rfl, rfl, rfl, trivial⟩ ?_
        refine x_blk ?_
        refine x_seq ?_
        refine c_reg ?_
        refine r_u (o_bin rfl rfl (bI_add s_11 1)) ?_
        refine r_u (o_mv rfl) ?_
        refine r_nil ?_
        exact x_lp (i64 (s_11 + 1), ls c_12 s_11 l20, (p25, p26, p27, p28)) hm24 ⟨rfl, rfl, rfl, trivial⟩ (fun _ h => st_pk 3 [0, 2, 1] (by decide) h)
      · have hm18 := iff_ hm15 h17
        clear hm15
        refine c_exit (x_exit (ks' := _) rfl ?_)
        obtain rfl := Option.some.inj hm18
        exact x_sub (K10 g13) ⟨rfl, trivial⟩ (fun _ h => st_pk 3 [0, 1, 2] (by decide) h)

def ring_New_l0 (a0 : Int) : Nat → Int → (List Int) → Option (List Int)
  | 0, _, _ => none
  | k28 + 1, i_25, c_26 => if decide (0 ≤ i_25) then (apd 8 c_26 [i64 (a0 + i_25)]).bind fun l35 => ring_New_l0 a0 k28 (i64 (i_25 - 1)) l35 else some c_26
def ring_New_l1 (a0 : Int) : Nat → Int → (List ring_slot) → Option (List ring_slot)
  | 0, _, _ => none
  | k39 + 1, s_37, c_38 => if decide (s_37 < a0) then (gi c_38 s_37).bind fun x44 => ring_New_l1 a0 k39 (i64 (s_37 + 1)) (ls c_38 s_37 (⟨[], s_37, s_37, s_37⟩ : ring_slot)) else some c_38
def ring_New (a0 : Int) (a1 : Int) : Option (Option ring_Rings × Int) :=
  if (((decide (a0 < 1) || decide (8 < a0)) || decide (a1 < 0)) || decide (4096 < a1)) then some (none, 1) else (mks 8 a0 (0 : Int)).bind fun l11 => (mks 40 (i64 (a0 + a1)) ((⟨[], 0, 0, 0⟩ : ring_slot) : ring_slot)).bind fun l13 => Option.bind (ring_New_l1 a0 ((a0 - 0).toNat + 1) 0 l13) fun p16 => Option.bind (ring_New_l0 a0 (((i64 (a1 - 1)) + 1).toNat + 1) (i64 (a1 - 1)) []) fun p20 => some ((some (⟨a0, p16, p20, [], l11⟩ : ring_Rings)), 0)
theorem ring_New.ok {G R F} (a0 : Int) (a1 : Int) (r : Option ring_Rings × Int) (hm : ring_New a0 a1 = some r) : CO Tryz.prog 18 [vI a0, vI a1] G R (F)
    (Ret fun u R' L' => ∃ (p0 : Value × ring_Rings.G), u = .tuple #[p0.1, vI r.2] ∧ R' = R ∧ L' = rO (ring_Rings.op p0.2) p0.1 r.1 :: F) := by
  unfold ring_New at hm
  refine co_ofN (N := 67) Tryz.func18 rfl rfl ?_
  refine c_seq ?_
  refine c_reg ?_
  refine r_u (o_as rfl) ?_
  refine r_u (o_as rfl) ?_
  refine r_nil ?_
  refine x_seq ?_
  refine c_seq ?_
  refine c_seq ?_
  refine c_reg ?_
  refine r_u (o_mv rfl) ?_
  refine r_u (o_bin rfl rfl (bI_lt a0 1)) ?_
  refine r_u (o_mv rfl) ?_
  refine r_s (s_gf rfl rfl fun g => o_mv rfl) ?_
  refine r_s (s_gf rfl rfl fun g => o_bin (evg rfl g) rfl (bI_gt a0 8)) ?_
  refine r_u (o_or rfl rfl) ?_
  refine r_u (o_mv rfl) ?_
  refine r_s (s_gf rfl rfl fun g => o_mv rfl) ?_
  refine r_s (s_gf rfl rfl fun g => o_bin (evg rfl g) rfl (bI_lt a1 0)) ?_
  refine r_u (o_or rfl rfl) ?_
  refine r_u (o_mv rfl) ?_
  refine r_s (s_gf rfl rfl fun g => o_mv rfl) ?_
  refine r_s (s_gf rfl rfl fun g => o_bin (evg rfl g) rfl (bI_gt a1 4096)) ?_
  refine r_u (o_or rfl rfl) ?_
  refine r_nil ?_
  refine x_seq ?_
  refine c_if (b := (((decide (a0 < 1) || decide (8 < a0)) || decide (a1 < 0)) || decide (4096 < a1))) rfl (fun h0 => ?_) fun h0 => ?_
  · have hm1 := ift hm h0
    clear hm
    refine c_seq ?_
    refine c_reg ?_
    refine r_u (o_as rfl) ?_
    refine r_u (o_as rfl) ?_
    refine r_nil ?_
    refine x_seq ?_
    refine c_ret ?_
    refine ex_st (fun _ h => st_none (f := ring_Rings.op default) h) ?_
    obtain rfl := Option.some.inj hm1
    exact x_r2 rfl (rv_t rfl) (rv_t rfl) (Le.refl _) ⟨_, rfl, (nl, default), rfl, rfl, rfl⟩
  · have hm1 := iff_ hm h0
    clear hm
    refine c_skip ?_
    refine x_seq ?_
    refine c_seq ?_
    obtain ⟨l11, hl11, hm12⟩ := bs hm1
    clear hm1
    obtain ⟨l13, hl13, hm14⟩ := bs hm12
    clear hm12
    refine c_anyF mixed (effs := [9]) (fr := [(1, fun u => OwM vS vI u []), (3, fun u => OwS true 3 1 eI u l11), (7, fun u => OwS true 91 4 ring_slot.c u l13)]) (V := []) rfl ?_
    refine stageF_ext [(0, vI a0), (2, vI a0), (4, vI a0), (5, vI a1), (6, vI (i64 (a0 + a1)))] rfl ?_
    refine stageG rfl rfl rfl rfl rfl rfl [0, 0, 0, 4, 0, 0, 48, 112, 255, 511, 1023] [0, 2, 4, 5, 6] [] (by kernel_rfl) (by kernel_rfl) (by kernel_rfl) (by kernel_rfl) (tc rfl rfl (fun A => s_u (o_mv rfl)) (tc rfl rfl (fun A => s_u (o_mv rfl)) (tc rfl rfl (fun A => s_u (o_mv rfl)) (tc rfl rfl (fun A => s_u (o_mv rfl)) (tc rfl rfl (fun A => s_u (o_bin rfl rfl (bI_add a0 a1))) tn))))) (fcons rfl (fun A => s_w (o_mm (kv := vS) (vv := vI))) (fcons rfl (fun A => s_w (o_mk (sz := 1) (bytes := 8) (e := 3) (en := eI) Tryz.underlying86 rfl rfl rfl rfl rfl rfl rfl rfl rfl hl11)) (fcons rfl (fun A => s_w (o_mk (sz := 4) (bytes := 40) (e := 91) (en := ring_slot.c) Tryz.underlying87 rfl rfl rfl rfl rfl rfl rfl rfl rfl hl13)) fnil))) etn fun bt10 => ?_
    refine stage_ext [(8, .agg [vI a0, (bt10 7), .slice none 0 0, (bt10 1), (bt10 3)].toArray)] rfl ?_
    refine stage rfl rfl rfl rfl [0, 0, 0, 4, 0, 0, 48, 112, 255, 511, 1023] [0, 8] [9] (by kernel_rfl) (by kernel_rfl) (by kernel_rfl) (qc rfl rfl (s_u (o_mv rfl)) (qc rfl rfl (s_u (ou_if (hd_m 0 rfl) fun hb0 => ou_if (hd_o 1 rfl) fun hb1 => ou_if (hd_o 2 rfl) fun hb2 => o_bld [vI a0, (bt10 7), .slice none 0 0, (bt10 1), (bt10 3)] rfl (fun _ => by obtain ⟨_, he0⟩ := hb0; rw [he0]; obtain ⟨_, _, he1⟩ := hb1; rw [he1]; obtain ⟨_, _, he2⟩ := hb2; rw [he2]; kernel_rfl))) qn)) ?_ (fun h => absurd (show false = true from h) (by decide))
    refine ec (eo_n rfl (s_w (o_bx [vI a0, (bt10 7), .slice none 0 0, (bt10 1), (bt10 3)] rfl rfl)) fun b15 => ?_) en
    refine stage_ext [(10, pt b15 0)] rfl ?_
    refine stage rfl rfl rfl rfl [0, 0, 0, 4, 0, 0, 48, 112, 255, 511, 1023] [10] [] (by kernel_rfl) (by kernel_rfl) (by kernel_rfl) (qc rfl rfl (s_u (o_as rfl)) qn) en ?_
    intro _
    refine ex_sub (E' := [(0, vI a0), (1, vI a1), (6, pt b15 0)]) ⟨rfl, rfl, rfl, trivial⟩ ?_
    refine x_seq ?_
    refine c_seq ?_
    refine c_seq ?_
    refine c_reg ?_
    refine r_u (o_mv rfl) ?_
    refine r_u (o_mv rfl) ?_
    refine r_nil ?_
    refine x_seq ?_
    obtain ⟨p16, hp17, hm18⟩ := bs hm14
    refine cd_join (E' := [(0, vI a0), (1, vI a1), (6, pt b15 0)]) (L' := Bk b15 89 [vI a0, (bt10 7), .slice none 0 0, (bt10 1), (bt10 3)] :: OwM vS vI (bt10 1) [] :: OwS true 3 1 eI (bt10 3) l11 :: OwS true 91 4 ring_slot.c (bt10 7) p16 :: F) ?_ fun K19 => ?_
    · refine x_seq ?_
      refine c_seq ?_
      refine c_seq ?_
      refine c_reg ?_
      refine r_u (o_mv rfl) ?_
      refine r_u (o_bin rfl rfl (bI_sub a1 1)) ?_
      refine r_u (o_as rfl) ?_
      refine r_nil ?_
      refine x_seq ?_
      obtain ⟨p20, hp22, hm23⟩ := bs hm18
      refine cd_cut (fun x ks => ∀ (g21 : Value), EX x .normal ks [(6, pt b15 0)] R (Bk b15 89 [vI a0, (bt10 7), g21, (bt10 1), (bt10 3)] :: OwM vS vI (bt10 1) [] :: OwS true 3 1 eI (bt10 3) l11 :: OwS true 91 4 ring_slot.c (bt10 7) p16 :: OwS true 3 1 eI g21 p20 :: F)) ?_ fun K24 => ?_
      · intro g21
        refine x_seq ?_
        refine c_seq ?_
        refine c_reg ?_
        refine r_u (o_mv rfl) ?_
        refine r_u (o_as rfl) ?_
        refine r_u (o_as rfl) ?_
        refine r_nil ?_
        refine x_seq ?_
        refine c_ret ?_
        refine ex_st (fun _ h => mv4 (mv4 (mv4 (mv2 (mv2 h))))) ?_
        refine ex_st (fun _ h => st_some (f := ring_Rings.op (⟨(bt10 7), g21, (bt10 1), (bt10 3)⟩ : ring_Rings.G)) (a := (⟨a0, p16, p20, [], l11⟩ : ring_Rings)) (st_star_f (A := ring_Rings.fl b15 (⟨a0, p16, p20, [], l11⟩ : ring_Rings) (⟨(bt10 7), g21, (bt10 1), (bt10 3)⟩ : ring_Rings.G)) h)) ?_
        obtain rfl := Option.some.inj hm23
        exact x_r2 rfl (rv_t rfl) (rv_t rfl) (Le.refl _) ⟨_, rfl, (pt b15 0, (⟨(bt10 7), g21, (bt10 1), (bt10 3)⟩ : ring_Rings.G)), rfl, rfl, rfl⟩
      · refine c_blk ?_
        refine cd_st (fun _ h => st_nil (ap := true) (T := 3) (sz := 1) (en := eI) h) ?_
        refine cd_loopG (M := fun k28 (s : Int × List Int × Value) => ring_New_l0 a0 k28 s.1 s.2.1 = some p20) (Ef := fun (s : Int × List Int × Value) => [(0, vI a0), (6, pt b15 0), (8, vI s.1)]) (Rf := fun (s : Int × List Int × Value) => R) (Lf := fun (s : Int × List Int × Value) => Bk b15 89 [vI a0, (bt10 7), s.2.2, (bt10 1), (bt10 3)] :: OwM vS vI (bt10 1) [] :: OwS true 3 1 eI (bt10 3) l11 :: OwS true 91 4 ring_slot.c (bt10 7) p16 :: OwS true 3 1 eI s.2.2 s.2.1 :: F) (((i64 (a1 - 1)) + 1).toNat + 1) (i64 (a1 - 1), [], .slice none 0 0) hp22 ⟨rfl, rfl, rfl, trivial⟩ (fun _ h => st_pk 5 [1, 2, 3, 4, 0] (by decide) h) (fun _ h => by cases h) fun k28 s hM30 => ?_
        obtain ⟨i_25, c_26, g27⟩ := s
        have hm29 : ring_New_l0 a0 (k28 + 1) i_25 c_26 = some p20 := hM30
        rw [ring_New_l0] at hm29
        refine c_seq ?_
        refine c_seq ?_
        refine c_reg ?_
        refine r_u (o_mv rfl) ?_
        refine r_u (o_bin rfl rfl (bI_ge i_25 0)) ?_
        refine r_nil ?_
        refine x_seq ?_
        refine c_if (b := decide (0 ≤ i_25)) rfl (fun h31 => ?_) fun h31 => ?_
        · have hm32 := ift hm29 h31
          clear hm29
          refine c_skip ?_
          refine x_seq ?_
          refine c_seq ?_
          refine c_blk ?_
          refine c_reg ?_
          refine r_u (o_mv rfl) ?_
          refine r_u (o_mv rfl) ?_
          refine r_u (o_nc rfl) ?_
          refine r_u (o_fa fa89_2 rfl) ?_
          refine r_u (o_ld 0 sc86 rfl rfl rfl) ?_
          refine r_u (o_mv rfl) ?_
          refine r_u (o_mv rfl) ?_
          refine r_u (o_bin rfl rfl (bI_add a0 i_25)) ?_
          refine r_sw (s_w (o_bsl (en := eI) (sz := 1) (e := 3) (cs := [vI (i64 (a0 + i_25))]) (r := [i64 (a0 + i_25)]) rfl (fun _ => by kernel_rfl) rfl (by decide) rfl (fun _ => rfl))) ?_
          rintro v33 R _ _ ⟨rfl, rfl⟩
          obtain ⟨l35, hl35, hm36⟩ := bs hm32
          clear hm32
          refine rl_st (fun _ h => mv5 h) ?_
          refine r_sw (s_w (o_ap (sz := 1) (bytes := 8) 0 Tryz.underlying86 rfl rfl rfl rfl rfl (by decide) (by decide) (fun _ _ _ h => by simp at h; subst h; rfl) (fun _ => rfl) rfl rfl rfl rfl (Nat.succ_pos _) hl35)) ?_
          rintro v34 R _ _ ⟨rfl, rfl⟩
          refine r_u (o_nc rfl) ?_
          refine r_u (o_fa fa89_2 rfl) ?_
          refine rl_st (fun _ h => mv2 h) ?_
          refine r_u0 (ou_if (one_o 1 rfl) fun ho0 => o_st sc86 rfl rfl rfl ho0 rfl rfl) ?_
          refine r_nil ?_
          refine x_blk ?_
          refine x_seq ?_
          refine c_reg ?_
          refine r_u (o_mv rfl) ?_
          refine r_u (o_bin rfl rfl (bI_sub i_25 1)) ?_
          refine r_u (o_as rfl) ?_
          refine r_nil ?_
          exact x_lp (i64 (i_25 - 1), l35, v34) hm36 ⟨rfl, rfl, rfl, trivial⟩ (fun _ h => st_pk 6 [0, 3, 4, 5, 1] (by decide) h)
        · have hm32 := iff_ hm29 h31
          clear hm29
          refine c_exit (x_exit (ks' := _) rfl ?_)
          obtain rfl := Option.some.inj hm32
          exact x_sub (K24 g27) ⟨rfl, trivial⟩ (fun _ h => st_pk 5 [0, 1, 2, 3, 4] (by decide) h)
    · refine c_blk ?_
      refine cd_loop (M := fun k39 (s : Int × List ring_slot) => ring_New_l1 a0 k39 s.1 s.2 = some p16) (Ef := fun (s : Int × List ring_slot) => [(0, vI a0), (1, vI a1), (6, pt b15 0), (33, vI a0), (34, vI s.1)]) (Lf := fun (s : Int × List ring_slot) => Bk b15 89 [vI a0, (bt10 7), .slice none 0 0, (bt10 1), (bt10 3)] :: OwM vS vI (bt10 1) [] :: OwS true 3 1 eI (bt10 3) l11 :: OwS true 91 4 ring_slot.c (bt10 7) s.2 :: F) ((a0 - 0).toNat + 1) (0, l13) hp17 ⟨rfl, rfl, rfl, rfl, rfl, trivial⟩ (fun _ h => h) (fun _ h => by cases h) fun k39 s hM41 => ?_
      obtain ⟨s_37, c_38⟩ := s
      have hm40 : ring_New_l1 a0 (k39 + 1) s_37 c_38 = some p16 := hM41
      rw [ring_New_l1] at hm40
      refine c_seq ?_
      refine c_reg ?_
      refine r_u (o_bin rfl rfl (bI_lt s_37 a0)) ?_
      refine r_nil ?_
      refine x_seq ?_
      refine c_seq ?_
      refine c_if (b := decide (s_37 < a0)) rfl (fun h42 => ?_) fun h42 => ?_
      · have hm43 := ift hm40 h42
        clear hm40
        refine c_skip ?_
        refine x_seq ?_
        refine c_seq ?_
        refine c_blk ?_
        refine c_seq ?_
        refine c_reg ?_
        refine r_u (o_mv rfl) ?_
        refine r_u (o_as rfl) ?_
        refine r_nil ?_
        refine x_seq ?_
        refine c_reg ?_
        refine r_u (o_mv rfl) ?_
        refine r_u (o_nc rfl) ?_
        refine r_u (o_fa fa89_1 rfl) ?_
        refine r_u (o_ld 0 sc87 rfl rfl rfl) ?_
        refine r_u (o_mv rfl) ?_
        refine r_u (o_mv rfl) ?_
        refine r_u (o_mv rfl) ?_
        refine r_u (o_mv rfl) ?_
        refine r_u (o_bld [vS [], vI s_37, vI s_37, vI s_37] rfl (fun _ => by kernel_rfl)) ?_
        obtain ⟨x44, hx44, hm45⟩ := bs hm43
        clear hm43
        refine r_u (o_ixO 3 Tryz.underlying87 (fun _ => by kernel_rfl) rfl rfl rfl hx44) ?_
        refine rl_st (fun _ h => mv3 h) ?_
        refine r_u0 (o_stnO (c' := (⟨[], s_37, s_37, s_37⟩ : ring_slot)) ag91 rfl rfl rfl hx44 rfl rfl rfl) ?_
        refine r_nil ?_
        refine x_blk ?_
        refine x_seq ?_
        refine c_reg ?_
        refine r_u (o_bin rfl rfl (bI_add s_37 1)) ?_
        refine r_u (o_mv rfl) ?_
        refine r_nil ?_
        exact x_lp (i64 (s_37 + 1), ls c_38 s_37 (⟨[], s_37, s_37, s_37⟩ : ring_slot)) hm45 ⟨rfl, rfl, rfl, rfl, rfl, trivial⟩ (fun _ h => st_pk 4 [1, 2, 3, 0] (by decide) h)
      · have hm43 := iff_ hm40 h42
        clear hm40
        refine c_exit (x_exit (ks' := _) rfl ?_)
        obtain rfl := Option.some.inj hm43
        exact x_sub K19 ⟨rfl, rfl, rfl, trivial⟩ (fun _ h => st_pk 4 [0, 1, 2, 3] (by decide) h)

def tiny_New (a0 : Int) (a1 : UInt64) : Option (Option tiny_Tiny × Int) :=
  if (decide (a0 < 1) || decide (1000 < a0)) then some (none, 1) else (sketch_New (tiny_wide a0) a1).bind fun r2 => (ring_New 3 (i64 (a0 + 1))).bind fun r7 => some ((some (⟨a0, r2.1, r7.1⟩ : tiny_Tiny)), r7.2)
theorem tiny_New.ok {G R F} (a0 : Int) (a1 : UInt64) (r : Option tiny_Tiny × Int) (hm : tiny_New a0 a1 = some r) : CO Tryz.prog 4 [vI a0, vW a1] G R (F)
    (Ret fun u R' L' => ∃ (p0 : Value × tiny_Tiny.G), u = .tuple #[p0.1, vI r.2] ∧ R' = R ∧ L' = rO (tiny_Tiny.op p0.2) p0.1 r.1 :: F) := by
  unfold tiny_New at hm
  refine co_ofN (N := 35) Tryz.func4 rfl rfl ?_
  refine c_seq ?_
  refine c_reg ?_
  refine r_u (o_as rfl) ?_
  refine r_u (o_as rfl) ?_
  refine r_nil ?_
  refine x_seq ?_
  refine c_seq ?_
  refine c_seq ?_
  refine c_reg ?_
  refine r_u (o_mv rfl) ?_
  refine r_u (o_bin rfl rfl (bI_lt a0 1)) ?_
  refine r_u (o_mv rfl) ?_
  refine r_s (s_gf rfl rfl fun g => o_mv rfl) ?_
  refine r_s (s_gf rfl rfl fun g => o_bin (evg rfl g) rfl (bI_gt a0 1000)) ?_
  refine r_u (o_or rfl rfl) ?_
  refine r_nil ?_
  refine x_seq ?_
  refine c_if (b := (decide (a0 < 1) || decide (1000 < a0))) rfl (fun h0 => ?_) fun h0 => ?_
  · have hm1 := ift hm h0
    clear hm
    refine c_seq ?_
    refine c_reg ?_
    refine r_u (o_as rfl) ?_
    refine r_u (o_as rfl) ?_
    refine r_nil ?_
    refine x_seq ?_
    refine c_ret ?_
    refine ex_st (fun _ h => st_none (f := tiny_Tiny.op default) h) ?_
    obtain rfl := Option.some.inj hm1
    exact x_r2 rfl (rv_t rfl) (rv_t rfl) (Le.refl _) ⟨_, rfl, (nl, default), rfl, rfl, rfl⟩
  · have hm1 := iff_ hm h0
    clear hm
    refine c_skip ?_
    refine x_seq ?_
    refine c_seq ?_
    refine c_reg ?_
    refine r_u (o_mv rfl) ?_
    refine r_u (o_callq ca17 rfl (tiny_wide.ok a0 _ rfl)) ?_
    refine r_u (o_mv rfl) ?_
    obtain ⟨r2, hr2, hm6⟩ := bs hm1
    clear hm1
    refine r_sw (s_w (o_call ca16 rfl (sketch_New.ok (tiny_wide a0) a1 r2 hr2))) ?_
    rintro _ R _ _ ⟨⟨pv4, g5⟩, rfl, rfl, rfl⟩
    refine r_u (o_mv rfl) ?_
    refine r_u (o_ext rfl rfl) ?_
    refine r_u (o_ext rfl rfl) ?_
    refine r_u (o_as rfl) ?_
    refine r_u (o_as rfl) ?_
    refine r_nil ?_
    refine x_seq ?_
    refine c_seq ?_
    refine c_reg ?_
    refine r_u (o_mv rfl) ?_
    refine r_u (o_bin rfl rfl (bI_add a0 1)) ?_
    obtain ⟨r7, hr7, hm11⟩ := bs hm6
    clear hm6
    refine r_sw (s_w (o_call ca18 rfl (ring_New.ok 3 (i64 (a0 + 1)) r7 hr7))) ?_
    rintro _ R _ _ ⟨⟨pv9, g10⟩, rfl, rfl, rfl⟩
    refine r_u (o_mv rfl) ?_
    refine r_u (o_ext rfl rfl) ?_
    refine r_u (o_ext rfl rfl) ?_
    refine r_u (o_as rfl) ?_
    refine r_u (o_as rfl) ?_
    refine r_nil ?_
    refine x_seq ?_
    refine c_seq ?_
    refine c_reg ?_
    refine r_u (o_mv rfl) ?_
    refine r_u (o_mv rfl) ?_
    refine r_u (o_mv rfl) ?_
    refine r_u (ou_if (hd_p 1 rfl) fun hb0 => ou_if (hd_p 0 rfl) fun hb1 => o_bld [vI a0, pv4, pv9] rfl (fun _ => by obtain ⟨_, rfl⟩ := hb0; obtain ⟨_, rfl⟩ := hb1; kernel_rfl)) ?_
    refine r_new (o_bx [vI a0, pv4, pv9] rfl rfl) fun b12 => ?_
    refine r_u (o_mv rfl) ?_
    refine r_u (o_as rfl) ?_
    refine r_u (o_as rfl) ?_
    refine r_nil ?_
    refine x_seq ?_
    refine c_ret ?_
    refine ex_st (fun _ h => mv2 (mv2 (mv1 h))) ?_
    refine ex_st (fun _ h => st_some (f := tiny_Tiny.op (⟨(pv4, g5), (pv9, g10)⟩ : tiny_Tiny.G)) (a := (⟨a0, r2.1, r7.1⟩ : tiny_Tiny)) (st_star_f (A := tiny_Tiny.fl b12 (⟨a0, r2.1, r7.1⟩ : tiny_Tiny) (⟨(pv4, g5), (pv9, g10)⟩ : tiny_Tiny.G)) h)) ?_
    obtain rfl := Option.some.inj hm11
    exact x_r2 rfl (rv_t rfl) (rv_t rfl) (Le.refl _) ⟨_, rfl, (pt b12 0, (⟨(pv4, g5), (pv9, g10)⟩ : tiny_Tiny.G)), rfl, rfl, rfl⟩

def hawthornref08_wide (a0 : Int) : Int :=
  if decide (512 < a0) then 4096 else i64 (8 * a0)
theorem hawthornref08_wide.ok {G R F} (a0 : Int) (r : Int) (hm : hawthornref08_wide a0 = r) : CO Tryz.prog 20 [vI a0] G R (F)
    (Ret fun u R' L' => u = vI r ∧ R' = R ∧ L' = F) := by
  unfold hawthornref08_wide at hm
  refine co_ofN (N := 7) Tryz.func20 rfl rfl ?_
  refine c_seq ?_
  refine c_reg ?_
  refine r_u (o_as rfl) ?_
  refine r_nil ?_
  refine x_seq ?_
  refine c_seq ?_
  refine c_seq ?_
  refine c_reg ?_
  refine r_u (o_mv rfl) ?_
  refine r_u (o_bin rfl rfl (bI_gt a0 512)) ?_
  refine r_nil ?_
  refine x_seq ?_
  refine c_if (b := decide (512 < a0)) rfl (fun h0 => ?_) fun h0 => ?_
  · have hm1 := ift hm h0
    clear hm
    refine c_seq ?_
    refine c_reg ?_
    refine r_u (o_as rfl) ?_
    refine r_nil ?_
    refine x_seq ?_
    refine c_ret ?_
    subst hm1
    exact x_r1 rfl (rv_t rfl) (Le.refl _) ⟨_, rfl, rfl, rfl, rfl⟩
  · have hm1 := iff_ hm h0
    clear hm
    refine c_skip ?_
    refine x_seq ?_
    refine c_seq ?_
    refine c_reg ?_
    refine r_u (o_mv rfl) ?_
    refine r_u (o_bin rfl rfl (bI_mul 8 a0)) ?_
    refine r_u (o_as rfl) ?_
    refine r_nil ?_
    refine x_seq ?_
    refine c_ret ?_
    subst hm1
    exact x_r1 rfl (rv_t rfl) (Le.refl _) ⟨_, rfl, rfl, rfl, rfl⟩

def hawthornref05_New_l0 (a0 : Int) : Nat → Int → (List (List Int)) → Option (List (List Int))
  | 0, _, _ => none
  | k13 + 1, i_10, c_11 => if decide (i_10 < 4) then (mks 8 a0 (0 : Int)).bind fun l19 => (apd 24 c_11 [l19]).bind fun l23 => hawthornref05_New_l0 a0 k13 (i64 (i_10 + 1)) l23 else some c_11
def hawthornref05_New (a0 : Int) (a1 : UInt64) : Option hawthornref05_Sketch :=
  (mks 1 a0 (false : Bool)).bind fun l2 => Option.bind (hawthornref05_New_l0 a0 5 0 []) fun p5 => some (⟨a0, a1, p5, l2, 0⟩ : hawthornref05_Sketch)
theorem hawthornref05_New.ok {G R F} (a0 : Int) (a1 : UInt64) (r : hawthornref05_Sketch) (hm : hawthornref05_New a0 a1 = some r) : CO Tryz.prog 19 [vI a0, vW a1] G R (F)
    (Ret fun u R' L' => ∃ (p0 : hawthornref05_Sketch.G), u = .agg [vI r.Wide, vW r.Seed, p0.Rows.1, p0.Door, vI r.Added].toArray ∧ R' = R ∧ L' = OwS true 86 1 eV p0.Rows.1 p0.Rows.2 :: OwL (OwS true 3 1 eI) p0.Rows.2 r.Rows :: OwS true 4 1 eB p0.Door r.Door :: F) := by
  unfold hawthornref05_New at hm
  refine co_ofN (N := 24) Tryz.func19 rfl rfl ?_
  refine c_seq ?_
  refine c_reg ?_
  refine r_new (o_al ze31) fun b0 => ?_
  refine r_nil ?_
  refine x_seq ?_
  refine c_seq ?_
  refine c_reg ?_
  refine r_u (o_mv rfl) ?_
  refine r_u (o_mv rfl) ?_
  refine r_u (o_mv rfl) ?_
  obtain ⟨l2, hl2, hm3⟩ := bs hm
  clear hm
  refine r_sw (s_w (o_mk (sz := 1) (bytes := 1) (e := 4) (en := eB) Tryz.underlying29 rfl rfl rfl rfl rfl rfl rfl rfl rfl hl2)) ?_
  rintro v1 R _ _ ⟨rfl, rfl⟩
  refine r_u (ou_if (hd_o 0 rfl) fun hb0 => o_bld [vI a0, vW a1, .slice none 0 0, v1, vI 0] rfl (fun _ => by obtain ⟨_, _, rfl⟩ := hb0; kernel_rfl)) ?_
  refine r_new (o_al ze31) fun b4 => ?_
  refine r_u0 (ou_if (one_o 1 rfl) fun ho0 => o_stn ag31 rfl rfl rfl (al_c rfl (al_c rfl (al_c rfl (al_c ho0 (al_c rfl al_n))))) rfl rfl rfl) ?_
  refine r_nil ?_
  refine x_seq ?_
  refine c_seq ?_
  refine c_seq ?_
  refine c_reg ?_
  refine r_u (o_as rfl) ?_
  refine r_nil ?_
  refine x_seq ?_
  obtain ⟨p5, hp7, hm8⟩ := bs hm3
  refine cd_cut (fun x ks => ∀ (g6 : Value × List Value), EX x .normal ks [(4, pt b0 0), (5, pt b4 0)] R (Bk b4 31 [vI a0, vW a1, g6.1, v1, vI 0] :: Bk b0 31 [vI 0, vW 0, .slice none 0 0, .slice none 0 0, vI 0] :: OwS true 4 1 eB v1 l2 :: OwS true 86 1 eV g6.1 g6.2 :: OwL (OwS true 3 1 eI) g6.2 p5 :: F)) ?_ fun K9 => ?_
  · intro g6
    refine x_seq ?_
    refine c_seq ?_
    refine c_reg ?_
    refine r_u (o_ldn 0 [vI a0, vW a1, g6.1, v1, vI 0] ag31 rfl rfl rfl rfl) ?_
    refine rl_st (fun _ h => mv3 (mv3 (mv2 h))) ?_
    refine r_u0 (ou_if (one_o 1 rfl) fun ho0 => ou_if (one_o 2 rfl) fun ho1 => o_stn ag31 rfl rfl rfl (al_c rfl (al_c rfl (al_c ho0 (al_c ho1 (al_c rfl al_n))))) rfl rfl rfl) ?_
    refine r_nil ?_
    refine x_seq ?_
    refine c_ret ?_
    obtain rfl := Option.some.inj hm8
    exact x_d1 rfl (rv_n 0 [vI a0, vW a1, g6.1, v1, vI 0] ag31 rfl rfl rfl rfl) (fun _ h => st_pk 5 [1, 4, 2] (by decide) h) (Le.refl _) ⟨_, rfl, (⟨g6, v1⟩ : hawthornref05_Sketch.G), rfl, rfl, rfl⟩
  · refine c_blk ?_
    refine cd_st (fun _ h => st_nil (ap := true) (T := 86) (sz := 1) (en := eV) (st_lnil (own := OwS true 3 1 eI) h)) ?_
    refine cd_loopG (M := fun k13 (s : Int × List (List Int) × (Value × List Value)) => hawthornref05_New_l0 a0 k13 s.1 s.2.1 = some p5) (Ef := fun (s : Int × List (List Int) × (Value × List Value)) => [(0, vI a0), (4, pt b0 0), (5, pt b4 0), (6, vI s.1)]) (Rf := fun (s : Int × List (List Int) × (Value × List Value)) => R) (Lf := fun (s : Int × List (List Int) × (Value × List Value)) => Bk b4 31 [vI a0, vW a1, s.2.2.1, v1, vI 0] :: Bk b0 31 [vI 0, vW 0, .slice none 0 0, .slice none 0 0, vI 0] :: OwS true 4 1 eB v1 l2 :: OwS true 86 1 eV s.2.2.1 s.2.2.2 :: OwL (OwS true 3 1 eI) s.2.2.2 s.2.1 :: F) 5 (0, [], (.slice none 0 0, [])) hp7 ⟨rfl, rfl, rfl, rfl, trivial⟩ (fun _ h => st_pk 5 [2, 4, 3, 0, 1] (by decide) h) (fun _ h => by cases h) fun k13 s hM15 => ?_
    obtain ⟨i_10, c_11, g12⟩ := s
    have hm14 : hawthornref05_New_l0 a0 (k13 + 1) i_10 c_11 = some p5 := hM15
    rw [hawthornref05_New_l0] at hm14
    refine c_seq ?_
    refine c_seq ?_
    refine c_reg ?_
    refine r_u (o_mv rfl) ?_
    refine r_u (o_bin rfl rfl (bI_lt i_10 4)) ?_
    refine r_nil ?_
    refine x_seq ?_
    refine c_if (b := decide (i_10 < 4)) rfl (fun h16 => ?_) fun h16 => ?_
    · have hm17 := ift hm14 h16
      clear hm14
      refine c_skip ?_
      refine x_seq ?_
      refine c_seq ?_
      refine c_blk ?_
      obtain ⟨l19, hl19, hm20⟩ := bs hm17
      clear hm17
      obtain ⟨l23, hl23, hm25⟩ := bs hm20
      clear hm20
      refine c_any mixed (effs := [3, 4, 5, 7]) (V := []) ?_
      refine stage_ext [(0, pt b4 2), (1, g12.1), (2, vI a0)] rfl ?_
      refine stage rfl rfl rfl rfl [0, 1, 0, 4, 12, 31, 63, 127] [0, 1, 2] [3] rfl rfl rfl (qc rfl rfl (s_u (o_fa fa31_2 rfl)) (qc rfl rfl (s_u (o_ld 0 sc28 rfl rfl rfl)) (qc rfl rfl (s_u (o_mv rfl)) qn))) ?_ (fun h => absurd h (by decide))
      refine ec (eo_w rfl (s_w (o_mk (sz := 1) (bytes := 8) (e := 3) (en := eI) Tryz.underlying86 rfl rfl rfl rfl rfl rfl rfl rfl rfl hl19)) ?_) en
      rintro v18 R _ _ ⟨rfl, rfl⟩
      refine stage rfl rfl rfl rfl [0, 1, 0, 4, 12, 31, 63, 127] [0, 1] [4] rfl rfl rfl (qc rfl rfl (s_u (o_fa fa31_2 rfl)) (qc rfl rfl (s_u (o_ld 1 sc28 rfl rfl rfl)) qn)) ?_ (fun h => absurd h (by decide))
      refine ec (eo_w rfl (s_w (ow_if (hd_o 0 rfl) fun hb => o_bsl (en := eV) (sz := 1) (e := 86) (cs := [v18]) (r := [v18]) rfl (fun _ => by obtain ⟨_, _, rfl⟩ := hb; kernel_rfl) rfl (by decide) rfl (fun _ => rfl))) ?_) en
      rintro v21 R _ _ ⟨rfl, rfl⟩
      refine stage_st (fun _ h => mv1 h) ?_
      refine stage_st (fun _ h => st_l1 h) ?_
      refine stage_st (fun _ h => mv6 (mv6 (mv1 h))) ?_
      refine stage rfl rfl rfl rfl [0, 1, 0, 4, 12, 31, 63, 127] [0, 1] [5] rfl rfl rfl (qc rfl rfl (s_u (o_fa fa31_2 rfl)) (qc rfl rfl (s_u (o_ld 4 sc28 rfl rfl rfl)) qn)) ?_ (fun h => absurd h (by decide))
      refine ec (eo_w rfl (s_w (o_apN (bytes := 24) Tryz.underlying28 rfl rfl rfl rfl rfl rfl rfl rfl rfl (Nat.succ_pos _) hl23)) ?_) en
      rintro v22 R _ _ ⟨hs24, rfl, rfl⟩
      refine stage_st (fun _ h => mv2 h) ?_
      refine stage_ext [(6, pt b4 2)] rfl ?_
      refine stage rfl rfl rfl rfl [0, 1, 0, 4, 12, 31, 63, 127] [6] [7] rfl rfl rfl (qc rfl rfl (s_u (o_fa fa31_2 rfl)) qn) ?_ (fun h => absurd h (by decide))
      refine ec (eo_u rfl (s_u (ou_if (one_o 1 rfl) fun ho0 => o_st sc28 rfl rfl rfl ho0 rfl rfl)) (Le.refl _) ?_) en
      refine stage rfl rfl rfl rfl [0, 1, 0, 4, 12, 31, 63, 127] [] [] rfl rfl rfl qn en ?_
      intro _
      refine ex_sub (E' := [(0, vI a0), (4, pt b0 0), (5, pt b4 0), (6, vI i_10)]) ⟨rfl, rfl, rfl, rfl, trivial⟩ ?_
      refine x_blk ?_
      refine x_seq ?_
      refine c_reg ?_
      refine r_u (o_mv rfl) ?_
      refine r_u (o_bin rfl rfl (bI_add i_10 1)) ?_
      refine r_u (o_as rfl) ?_
      refine r_nil ?_
      exact x_lp (i64 (i_10 + 1), l23, (v22, hs24)) hm25 ⟨rfl, rfl, rfl, rfl, trivial⟩ (fun _ h => st_pk 5 [0, 3, 4, 1, 2] (by decide) h)
    · have hm17 := iff_ hm14 h16
      clear hm14
      refine c_exit (x_exit (ks' := _) rfl ?_)
      obtain rfl := Option.some.inj hm17
      exact x_sub (K9 g12) ⟨rfl, rfl, trivial⟩ (fun _ h => st_pk 5 [0, 1, 2, 3, 4] (by decide) h)

def hawthornref06_New (a0 : Int) (a1 : Int) : Option hawthornref06_Rings :=
  (mks 24 a0 ([] : List Str)).bind fun l2 => some (⟨l2, a1⟩ : hawthornref06_Rings)
theorem hawthornref06_New.ok {G R F} (a0 : Int) (a1 : Int) (r : hawthornref06_Rings) (hm : hawthornref06_New a0 a1 = some r) : CO Tryz.prog 21 [vI a0, vI a1] G R (F)
    (Ret fun u R' L' => ∃ (p0 : hawthornref06_Rings.G), u = .agg [p0.L.1, vI r.Places].toArray ∧ R' = R ∧ L' = OwS true 60 1 eV p0.L.1 p0.L.2 :: OwL (OwS true 9 1 eS) p0.L.2 r.L :: F) := by
  unfold hawthornref06_New at hm
  refine co_ofN (N := 9) Tryz.func21 rfl rfl ?_
  refine c_seq ?_
  refine c_reg ?_
  refine r_new (o_al ze34) fun b0 => ?_
  refine r_nil ?_
  refine x_seq ?_
  refine c_seq ?_
  refine c_reg ?_
  refine r_u (o_mv rfl) ?_
  obtain ⟨l2, hl2, hm4⟩ := bs hm
  clear hm
  refine r_sw (s_w (o_mkN (bytes := 24) (e := 60) (ap2 := true) (T2 := 9) (sz := 1) (en := eS) Tryz.underlying32 rfl rfl rfl rfl rfl rfl rfl hl2)) ?_
  rintro v1 R _ _ ⟨hs3, rfl, rfl⟩
  refine r_u (o_mv rfl) ?_
  refine r_u (ou_if (hd_o 0 rfl) fun hb0 => o_bld [v1, vI a1] rfl (fun _ => by obtain ⟨_, _, rfl⟩ := hb0; kernel_rfl)) ?_
  refine rl_st (fun _ h => mv2 h) ?_
  refine r_u0 (ou_if (one_o 1 rfl) fun ho0 => o_stn ag34 rfl rfl rfl (al_c ho0 (al_c rfl al_n)) rfl rfl rfl) ?_
  refine r_nil ?_
  refine x_seq ?_
  refine c_ret ?_
  obtain rfl := Option.some.inj hm4
  exact x_d1 rfl (rv_n 0 [v1, vI a1] ag34 rfl rfl rfl rfl) (fun _ h => st_pk 3 [1, 2] (by decide) h) (Le.refl _) ⟨_, rfl, (⟨(v1, hs3)⟩ : hawthornref06_Rings.G), rfl, rfl, rfl⟩

def hawthornref08_New (a0 : Int) (a1 : UInt64) : Option hawthornref08_Tiny :=
  (hawthornref05_New (hawthornref08_wide a0) a1).bind fun r1 => (hawthornref06_New 3 (i64 (a0 + 1))).bind fun r6 => some (⟨a0, r1, r6⟩ : hawthornref08_Tiny)
theorem hawthornref08_New.ok {G R F} (a0 : Int) (a1 : UInt64) (r : hawthornref08_Tiny) (hm : hawthornref08_New a0 a1 = some r) : CO Tryz.prog 5 [vI a0, vW a1] G R (F)
    (Ret fun u R' L' => ∃ (p0 : hawthornref08_Tiny.G), u = .agg [vI r.Most, vI r.S.Wide, vW r.S.Seed, p0.S.Rows.1, p0.S.Door, vI r.S.Added, p0.R.L.1, vI r.R.Places].toArray ∧ R' = R ∧ L' = OwS true 86 1 eV p0.S.Rows.1 p0.S.Rows.2 :: OwL (OwS true 3 1 eI) p0.S.Rows.2 r.S.Rows :: OwS true 4 1 eB p0.S.Door r.S.Door :: OwS true 60 1 eV p0.R.L.1 p0.R.L.2 :: OwL (OwS true 9 1 eS) p0.R.L.2 r.R.L :: F) := by
  unfold hawthornref08_New at hm
  refine co_ofN (N := 14) Tryz.func5 rfl rfl ?_
  refine c_seq ?_
  refine c_reg ?_
  refine r_new (o_al ze36) fun b0 => ?_
  refine r_nil ?_
  refine x_seq ?_
  refine c_seq ?_
  refine c_reg ?_
  refine r_u (o_mv rfl) ?_
  refine r_u (o_mv rfl) ?_
  refine r_u (o_callq ca20 rfl (hawthornref08_wide.ok a0 _ rfl)) ?_
  refine r_u (o_mv rfl) ?_
  obtain ⟨r1, hr1, hm5⟩ := bs hm
  clear hm
  refine r_sw (s_w (o_call ca19 rfl (hawthornref05_New.ok (hawthornref08_wide a0) a1 r1 hr1))) ?_
  rintro _ R _ _ ⟨v2, rfl, rfl, rfl⟩
  refine r_u (o_mv rfl) ?_
  refine r_u (o_bin rfl rfl (bI_add a0 1)) ?_
  obtain ⟨r6, hr6, hm9⟩ := bs hm5
  clear hm5
  refine r_sw (s_w (o_call ca21 rfl (hawthornref06_New.ok 3 (i64 (a0 + 1)) r6 hr6))) ?_
  rintro _ R _ _ ⟨v7, rfl, rfl, rfl⟩
  refine r_u (ou_if (hd_o 2 rfl) fun hb0 => ou_if (hd_o 4 rfl) fun hb1 => ou_if (hd_o 0 rfl) fun hb2 => o_bld [vI a0, vI r1.Wide, vW r1.Seed, v2.Rows.1, v2.Door, vI r1.Added, v7.L.1, vI r6.Places] rfl (fun _ => by obtain ⟨_, _, he0⟩ := hb0; rw [he0]; obtain ⟨_, _, he1⟩ := hb1; rw [he1]; obtain ⟨_, _, he2⟩ := hb2; rw [he2]; kernel_rfl)) ?_
  refine rl_st (fun _ h => mv5 (mv3 (mv4 h))) ?_
  refine r_u0 (ou_if (one_o 1 rfl) fun ho0 => ou_if (one_o 2 rfl) fun ho1 => ou_if (one_o 3 rfl) fun ho2 => o_stn ag36 rfl rfl rfl (al_c rfl (al_c rfl (al_c rfl (al_c ho0 (al_c ho1 (al_c rfl (al_c ho2 (al_c rfl al_n)))))))) rfl rfl rfl) ?_
  refine r_nil ?_
  refine x_seq ?_
  refine c_ret ?_
  obtain rfl := Option.some.inj hm9
  exact x_d1 rfl (rv_n 0 [vI a0, vI r1.Wide, vW r1.Seed, v2.Rows.1, v2.Door, vI r1.Added, v7.L.1, vI r6.Places] ag36 rfl rfl rfl rfl) (fun _ h => st_pk 6 [1, 5, 2, 3, 4] (by decide) h) (Le.refl _) ⟨_, rfl, (⟨v2, v7⟩ : hawthornref08_Tiny.G), rfl, rfl, rfl⟩

def ring_Rings_In (a0 : ring_Rings) (a1 : Str) : Option (Int × Bool) :=
  if !((mget a0.at_ a1).isSome) then some (0, false) else (gi a0.slots ((mget a0.at_ a1).getD (0 : Int))).bind fun x6 => some (x6.list, true)
theorem ring_Rings_In.ok {G R F} (b0_ : Nat) (a0 : ring_Rings) (g0_ : ring_Rings.G) (a1 : Str) (r : Int × Bool) (hm : ring_Rings_In a0 a1 = some r) : CO Tryz.prog 37 [pt b0_ 0, vS a1] G R (Bk b0_ 89 [vI a0.lists, g0_.slots, g0_.free, g0_.at_, g0_.many] :: OwS true 91 4 ring_slot.c g0_.slots a0.slots :: OwS true 3 1 eI g0_.free a0.free :: OwM vS vI g0_.at_ a0.at_ :: OwS true 3 1 eI g0_.many a0.many :: F)
    (Ret fun u R' L' => u = .tuple #[vI r.1, vB r.2] ∧ R' = R ∧ L' = Bk b0_ 89 [vI a0.lists, g0_.slots, g0_.free, g0_.at_, g0_.many] :: OwS true 91 4 ring_slot.c g0_.slots a0.slots :: OwS true 3 1 eI g0_.free a0.free :: OwM vS vI g0_.at_ a0.at_ :: OwS true 3 1 eI g0_.many a0.many :: F) := by
  unfold ring_Rings_In at hm
  refine co_ofN (N := 29) Tryz.func37 rfl rfl ?_
  refine c_seq ?_
  refine c_reg ?_
  refine r_u (o_as rfl) ?_
  refine r_u (o_as rfl) ?_
  refine r_nil ?_
  refine x_seq ?_
  refine c_seq ?_
  refine c_seq ?_
  refine c_reg ?_
  refine r_u (o_mv rfl) ?_
  refine r_u (o_bin rfl rfl (bP_eqp Tryz.underlying53)) ?_
  refine r_nil ?_
  refine x_seq ?_
  refine c_ff rfl ?_
  refine c_skip ?_
  refine x_seq ?_
  refine c_seq ?_
  refine c_reg ?_
  refine r_u (o_mv rfl) ?_
  refine r_u (o_nc rfl) ?_
  refine r_u (o_fa fa89_3 rfl) ?_
  refine r_u (o_ld 0 sc85 rfl rfl rfl) ?_
  refine r_u (o_mv rfl) ?_
  refine r_u (o_lk (kv := vS) (vv := vI) (key := a1) (z0 := (0 : Int)) 3 Tryz.underlying85 (kok_S Tryz.underlying9) (fun _ => by kernel_rfl) rfl rfl rfl) ?_
  refine r_u (o_mv rfl) ?_
  refine r_u (o_ext rfl rfl) ?_
  refine r_u (o_ext rfl rfl) ?_
  refine r_u (o_as rfl) ?_
  refine r_u (o_as rfl) ?_
  refine r_nil ?_
  refine x_seq ?_
  refine c_seq ?_
  refine c_seq ?_
  refine c_reg ?_
  refine r_u (o_mv rfl) ?_
  refine r_u (o_not rfl) ?_
  refine r_nil ?_
  refine x_seq ?_
  refine c_if (b := !((mget a0.at_ a1).isSome)) rfl (fun h4 => ?_) fun h4 => ?_
  · have hm5 := ift hm h4
    clear hm
    refine c_seq ?_
    refine c_reg ?_
    refine r_u (o_as rfl) ?_
    refine r_u (o_as rfl) ?_
    refine r_nil ?_
    refine x_seq ?_
    refine c_ret ?_
    obtain rfl := Option.some.inj hm5
    exact x_r2 rfl (rv_t rfl) (rv_t rfl) (Le.refl _) ⟨_, rfl, rfl, rfl, rfl⟩
  · have hm5 := iff_ hm h4
    clear hm
    refine c_skip ?_
    refine x_seq ?_
    refine c_seq ?_
    refine c_reg ?_
    refine r_u (o_mv rfl) ?_
    refine r_u (o_nc rfl) ?_
    refine r_u (o_fa fa89_1 rfl) ?_
    refine r_u (o_ld 0 sc87 rfl rfl rfl) ?_
    refine r_u (o_mv rfl) ?_
    obtain ⟨x6, hx6, hm7⟩ := bs hm5
    clear hm5
    refine r_u (o_ixO 1 Tryz.underlying87 (fun _ => by kernel_rfl) rfl rfl rfl hx6) ?_
    refine r_u (o_fa fa91_1 rfl) ?_
    refine r_u (o_ldO 1 1 sc3 rfl rfl hx6 rfl rfl) ?_
    refine r_u (o_as rfl) ?_
    refine r_u (o_as rfl) ?_
    refine r_nil ?_
    refine x_seq ?_
    refine c_ret ?_
    obtain rfl := Option.some.inj hm7
    exact x_r2 rfl (rv_t rfl) (rv_t rfl) (Le.refl _) ⟨_, rfl, rfl, rfl, rfl⟩

def tiny_Tiny_Has (a0 : tiny_Tiny) (a1 : Str) : Option Bool :=
  om a0.r (none) fun x6 => (ring_Rings_In x6 a1).bind fun r14 => some r14.2
theorem tiny_Tiny_Has.ok {G R F} (b0_ : Nat) (a0 : tiny_Tiny) (g0_ : tiny_Tiny.G) (a1 : Str) (r : Bool) (hm : tiny_Tiny_Has a0 a1 = some r) : CO Tryz.prog 10 [pt b0_ 0, vS a1] G R (Bk b0_ 57 [vI a0.most, g0_.s.1, g0_.r.1] :: rO (sketch_Sketch.op g0_.s.2) g0_.s.1 a0.s :: rO (ring_Rings.op g0_.r.2) g0_.r.1 a0.r :: F)
    (Ret fun u R' L' => u = vB r ∧ R' = R ∧ L' = Bk b0_ 57 [vI a0.most, g0_.s.1, g0_.r.1] :: rO (sketch_Sketch.op g0_.s.2) g0_.s.1 a0.s :: rO (ring_Rings.op g0_.r.2) g0_.r.1 a0.r :: F) := by
  obtain ⟨⟨pv1, g2⟩, ⟨pv4, g5⟩⟩ := g0_
  unfold tiny_Tiny_Has at hm
  refine co_ofN (N := 19) Tryz.func10 rfl rfl ?_
  refine c_seq ?_
  refine c_reg ?_
  refine r_u (o_as rfl) ?_
  refine r_nil ?_
  refine x_seq ?_
  refine c_seq ?_
  refine c_seq ?_
  refine c_reg ?_
  refine r_u (o_mv rfl) ?_
  refine r_u (o_bin rfl rfl (bP_eqp Tryz.underlying24)) ?_
  refine r_nil ?_
  refine x_seq ?_
  refine c_ff rfl ?_
  refine c_skip ?_
  refine x_seq ?_
  refine c_seq ?_
  refine cd_st (fun _ h => mv2 h) ?_
  refine cd_opt (fun ho8 => ?_) (fun x6 b7 ho8 => ?_)
  · rintro rfl
    have hm9 := om_n hm ho8
    clear hm
    cases hm9
  · rintro rfl
    have hm9 := om_s hm ho8
    clear hm
    refine cd_st (fun _ h => st_star_o h) ?_
    refine c_reg ?_
    refine r_u (o_mv rfl) ?_
    refine r_u (o_nc rfl) ?_
    refine r_u (o_fa fa57_2 rfl) ?_
    refine r_u (o_ld 5 sc53 rfl rfl rfl) ?_
    refine r_u (o_mv rfl) ?_
    obtain ⟨r14, hr14, hm15⟩ := bs hm9
    clear hm9
    refine r_c (s_w (o_call ca37 rfl (ring_Rings_In.ok b7 x6 g5 a1 r14 hr14))) ?_
    refine r_u (o_mv rfl) ?_
    refine r_u (o_ext rfl rfl) ?_
    refine r_u (o_ext rfl rfl) ?_
    refine r_u (o_as rfl) ?_
    refine r_u (o_as rfl) ?_
    refine r_nil ?_
    refine x_seq ?_
    refine c_seq ?_
    refine c_reg ?_
    refine r_u (o_mv rfl) ?_
    refine r_u (o_as rfl) ?_
    refine r_nil ?_
    refine x_seq ?_
    refine c_ret ?_
    refine ex_st (fun _ h => st_some (f := ring_Rings.op g5) (a := x6) (st_star_f (A := ring_Rings.fl b7 x6 g5) h)) ?_
    refine ex_st (fun _ h => st_back ho8 h) ?_
    obtain rfl := Option.some.inj hm15
    refine ex_st (fun _ h => st_pk 3 [1, 2, 0] (by decide) h) ?_
    exact x_r1 rfl (rv_t rfl) (Le.refl _) ⟨_, rfl, rfl, rfl, rfl⟩

def bits_RotateLeft64 (a0 : UInt64) (a1 : Int) : UInt64 :=
  (shWl a0 (((toW a1) &&& 63).toNat : Int)) ||| (shWr a0 ((64 - ((toW a1) &&& 63)).toNat : Int))
theorem bits_RotateLeft64.ok {G R F} (a0 : UInt64) (a1 : Int) (r : UInt64) (hm : bits_RotateLeft64 a0 a1 = r) : CO Tryz.prog 103 [vW a0, vI a1] G R (F)
    (Ret fun u R' L' => u = vW r ∧ R' = R ∧ L' = F) := by
  unfold bits_RotateLeft64 at hm
  refine co_ofN (N := 17) Tryz.func103 rfl rfl ?_
  refine c_seq ?_
  refine c_reg ?_
  refine r_u (o_as rfl) ?_
  refine r_nil ?_
  refine x_seq ?_
  refine c_seq ?_
  refine c_reg ?_
  refine r_u (o_mv rfl) ?_
  refine r_u (o_cv rfl (cIW Tryz.underlying3 Tryz.underlying143 a1)) ?_
  refine r_u (o_bin rfl rfl (bW_and (toW a1) 63)) ?_
  refine r_u (o_as rfl) ?_
  refine r_nil ?_
  refine x_seq ?_
  refine c_seq ?_
  refine c_reg ?_
  refine r_u (o_mv rfl) ?_
  refine r_u (o_mv rfl) ?_
  refine r_u (o_bin rfl rfl (bWW_shl a0 ((toW a1) &&& 63))) ?_
  refine r_u (o_mv rfl) ?_
  refine r_u (o_mv rfl) ?_
  refine r_u (o_bin rfl rfl (bW_sub 64 ((toW a1) &&& 63))) ?_
  refine r_u (o_bin rfl rfl (bWW_shr a0 (64 - ((toW a1) &&& 63)))) ?_
  refine r_u (o_bin rfl rfl (bW_or (shWl a0 (((toW a1) &&& 63).toNat : Int)) (shWr a0 ((64 - ((toW a1) &&& 63)).toNat : Int)))) ?_
  refine r_u (o_as rfl) ?_
  refine r_nil ?_
  refine x_seq ?_
  refine c_ret ?_
  subst hm
  exact x_r1 rfl (rv_t rfl) (Le.refl _) ⟨_, rfl, rfl, rfl, rfl⟩

def mix_Mix (a0 : UInt64) : UInt64 :=
  ((bits_RotateLeft64 ((a0 ^^^ (shWr a0 ((32 : UInt64).toNat : Int))) * 11400714819323198485) 29) * 11400714819323198485) ^^^ (shWr ((bits_RotateLeft64 ((a0 ^^^ (shWr a0 ((32 : UInt64).toNat : Int))) * 11400714819323198485) 29) * 11400714819323198485) ((32 : UInt64).toNat : Int))
theorem mix_Mix.ok {G R F} (a0 : UInt64) (r : UInt64) (hm : mix_Mix a0 = r) : CO Tryz.prog 100 [vW a0] G R (F)
    (Ret fun u R' L' => u = vW r ∧ R' = R ∧ L' = F) := by
  unfold mix_Mix at hm
  refine co_ofN (N := 17) Tryz.func100 rfl rfl ?_
  refine c_seq ?_
  refine c_reg ?_
  refine r_u (o_as rfl) ?_
  refine r_nil ?_
  refine x_seq ?_
  refine c_seq ?_
  refine c_reg ?_
  refine r_u (o_mv rfl) ?_
  refine r_u (o_mv rfl) ?_
  refine r_u (o_bin rfl rfl (bWW_shr a0 32)) ?_
  refine r_u (o_bin rfl rfl (bW_xor a0 (shWr a0 ((32 : UInt64).toNat : Int)))) ?_
  refine r_u (o_as rfl) ?_
  refine r_nil ?_
  refine x_seq ?_
  refine c_seq ?_
  refine c_reg ?_
  refine r_u (o_mv rfl) ?_
  refine r_u (o_bin rfl rfl (bW_mul (a0 ^^^ (shWr a0 ((32 : UInt64).toNat : Int))) 11400714819323198485)) ?_
  refine r_u (o_as rfl) ?_
  refine r_nil ?_
  refine x_seq ?_
  refine c_seq ?_
  refine c_reg ?_
  refine r_u (o_mv rfl) ?_
  refine r_u (o_callq ca103 rfl (bits_RotateLeft64.ok ((a0 ^^^ (shWr a0 ((32 : UInt64).toNat : Int))) * 11400714819323198485) 29 _ rfl)) ?_
  refine r_u (o_as rfl) ?_
  refine r_nil ?_
  refine x_seq ?_
  refine c_seq ?_
  refine c_reg ?_
  refine r_u (o_mv rfl) ?_
  refine r_u (o_bin rfl rfl (bW_mul (bits_RotateLeft64 ((a0 ^^^ (shWr a0 ((32 : UInt64).toNat : Int))) * 11400714819323198485) 29) 11400714819323198485)) ?_
  refine r_u (o_as rfl) ?_
  refine r_nil ?_
  refine x_seq ?_
  refine c_seq ?_
  refine c_reg ?_
  refine r_u (o_mv rfl) ?_
  refine r_u (o_mv rfl) ?_
  refine r_u (o_bin rfl rfl (bWW_shr ((bits_RotateLeft64 ((a0 ^^^ (shWr a0 ((32 : UInt64).toNat : Int))) * 11400714819323198485) 29) * 11400714819323198485) 32)) ?_
  refine r_u (o_bin rfl rfl (bW_xor ((bits_RotateLeft64 ((a0 ^^^ (shWr a0 ((32 : UInt64).toNat : Int))) * 11400714819323198485) 29) * 11400714819323198485) (shWr ((bits_RotateLeft64 ((a0 ^^^ (shWr a0 ((32 : UInt64).toNat : Int))) * 11400714819323198485) 29) * 11400714819323198485) ((32 : UInt64).toNat : Int)))) ?_
  refine r_u (o_as rfl) ?_
  refine r_nil ?_
  refine x_seq ?_
  refine c_ret ?_
  subst hm
  exact x_r1 rfl (rv_t rfl) (Le.refl _) ⟨_, rfl, rfl, rfl, rfl⟩

def mix_Of_l0 (a1 : Str) : Nat → UInt64 → Int → Option (UInt64)
  | 0, _, _ => none
  | k9 + 1, h_7, s_8 => if decide (s_8 < (a1.length : Int)) then (gi a1 s_8).bind fun x14 => mix_Of_l0 a1 k9 ((h_7 ^^^ x14.toUInt64) * 1099511628211) (i64 (s_8 + 1)) else some h_7
def mix_Of (a0 : UInt64) (a1 : Str) : Option UInt64 :=
  if a1.length ≤ maxLen then Option.bind (mix_Of_l0 a1 (((a1.length : Int) - 0).toNat + 1) (14695981039346656037 ^^^ (mix_Mix a0)) 0) fun p3 => some (mix_Mix (p3 ^^^ (toW (a1.length : Int)))) else none
theorem mix_Of.ok {G R F} (a0 : UInt64) (a1 : Str) (r : UInt64) (hm : mix_Of a0 a1 = some r) : CO Tryz.prog 91 [vW a0, vS a1] G R (F)
    (Ret fun u R' L' => u = vW r ∧ R' = R ∧ L' = F) := by
  unfold mix_Of at hm
  refine co_ofN (N := 30) Tryz.func91 rfl rfl ?_
  refine c_seq ?_
  refine c_reg ?_
  refine r_u (o_as rfl) ?_
  refine r_nil ?_
  refine x_seq ?_
  refine c_seq ?_
  refine c_reg ?_
  refine r_u (o_mv rfl) ?_
  refine r_u (o_callq ca100 rfl (mix_Mix.ok a0 _ rfl)) ?_
  refine r_u (o_bin rfl rfl (bW_xor 14695981039346656037 (mix_Mix a0))) ?_
  refine r_u (o_as rfl) ?_
  refine r_nil ?_
  refine x_seq ?_
  refine c_seq ?_
  refine c_seq ?_
  refine c_reg ?_
  refine r_u (o_mv rfl) ?_
  obtain ⟨h0, hm2⟩ := ig hm
  clear hm
  refine r_sw (s_w (o_sb Tryz.underlying9 Tryz.underlying81 Tryz.underlying5 rfl h0)) ?_
  rintro v1 R _ _ ⟨rfl, rfl⟩
  refine r_u (o_lenO 0 Tryz.underlying81 rfl rfl) ?_
  refine r_u (o_mv rfl) ?_
  refine r_nil ?_
  refine x_seq ?_
  obtain ⟨p3, hp4, hm5⟩ := bs hm2
  refine cd_join (E' := [(1, vS a1), (5, vW p3)]) (L' := OwS false 5 1 eY v1 a1 :: F) ?_ fun K6 => ?_
  · refine x_seq ?_
    refine c_seq ?_
    refine c_reg ?_
    refine r_u (o_mv rfl) ?_
    refine r_u (o_mv rfl) ?_
    refine r_u (o_lenS Tryz.underlying9 rfl) ?_
    refine r_u (o_cv rfl (cIW Tryz.underlying3 Tryz.underlying22 (a1.length : Int))) ?_
    refine r_u (o_bin rfl rfl (bW_xor p3 (toW (a1.length : Int)))) ?_
    refine r_u (o_callq ca100 rfl (mix_Mix.ok (p3 ^^^ (toW (a1.length : Int))) _ rfl)) ?_
    refine r_u (o_as rfl) ?_
    refine r_nil ?_
    refine x_seq ?_
    refine c_ret ?_
    obtain rfl := Option.some.inj hm5
    refine ex_st (fun _ h => st_pk 1 [] (by decide) h) ?_
    exact x_r1 rfl (rv_t rfl) (Le.refl _) ⟨_, rfl, rfl, rfl, rfl⟩
  · refine c_blk ?_
    refine cd_loop (M := fun k9 (s : UInt64 × Int) => mix_Of_l0 a1 k9 s.1 s.2 = some p3) (Ef := fun (s : UInt64 × Int) => [(1, vS a1), (12, v1), (13, vI (a1.length : Int)), (5, vW s.1), (14, vI s.2)]) (Lf := fun (s : UInt64 × Int) => OwS false 5 1 eY v1 a1 :: F) (((a1.length : Int) - 0).toNat + 1) (14695981039346656037 ^^^ (mix_Mix a0), 0) hp4 ⟨rfl, rfl, rfl, rfl, rfl, trivial⟩ (fun _ h => h) (fun _ h => by cases h) fun k9 s hM11 => ?_
    obtain ⟨h_7, s_8⟩ := s
    have hm10 : mix_Of_l0 a1 (k9 + 1) h_7 s_8 = some p3 := hM11
    rw [mix_Of_l0] at hm10
    refine c_seq ?_
    refine c_reg ?_
    refine r_u (o_bin rfl rfl (bI_lt s_8 (a1.length : Int))) ?_
    refine r_nil ?_
    refine x_seq ?_
    refine c_seq ?_
    refine c_if (b := decide (s_8 < (a1.length : Int))) rfl (fun h12 => ?_) fun h12 => ?_
    · have hm13 := ift hm10 h12
      clear hm10
      refine c_skip ?_
      refine x_seq ?_
      refine c_seq ?_
      refine c_blk ?_
      refine c_seq ?_
      refine c_reg ?_
      obtain ⟨x14, hx14, hm15⟩ := bs hm13
      clear hm13
      refine r_u (o_ixO 0 Tryz.underlying81 (fun _ => by kernel_rfl) rfl rfl rfl hx14) ?_
      refine r_u (o_ldO0 0 sc5 rfl rfl hx14 rfl rfl) ?_
      refine r_u (o_as rfl) ?_
      refine r_nil ?_
      refine x_seq ?_
      refine c_reg ?_
      refine r_u (o_mv rfl) ?_
      refine r_u (o_mv rfl) ?_
      refine r_u (o_cv rfl (cYW Tryz.underlying5 Tryz.underlying22 x14)) ?_
      refine r_u (o_bin rfl rfl (bW_xor h_7 x14.toUInt64)) ?_
      refine r_u (o_bin rfl rfl (bW_mul (h_7 ^^^ x14.toUInt64) 1099511628211)) ?_
      refine r_u (o_as rfl) ?_
      refine r_nil ?_
      refine x_blk ?_
      refine x_seq ?_
      refine c_reg ?_
      refine r_u (o_bin rfl rfl (bI_add s_8 1)) ?_
      refine r_u (o_mv rfl) ?_
      refine r_nil ?_
      exact x_lp ((h_7 ^^^ x14.toUInt64) * 1099511628211, i64 (s_8 + 1)) hm15 ⟨rfl, rfl, rfl, rfl, rfl, trivial⟩ (fun _ h => st_pk 1 [0] (by decide) h)
    · have hm13 := iff_ hm10 h12
      clear hm10
      refine c_exit (x_exit (ks' := _) rfl ?_)
      obtain rfl := Option.some.inj hm13
      exact x_sub K6 ⟨rfl, rfl, trivial⟩ (fun _ h => st_pk 1 [0] (by decide) h)

def bits_Mul64 (a0 : UInt64) (a1 : UInt64) : UInt64 × UInt64 :=
  ((((shWr a0 ((32 : UInt64).toNat : Int)) * (shWr a1 ((32 : UInt64).toNat : Int))) + (shWr (((shWr a0 ((32 : UInt64).toNat : Int)) * (a1 &&& 4294967295)) + (shWr ((a0 &&& 4294967295) * (a1 &&& 4294967295)) ((32 : UInt64).toNat : Int))) ((32 : UInt64).toNat : Int))) + (shWr (((((shWr a0 ((32 : UInt64).toNat : Int)) * (a1 &&& 4294967295)) + (shWr ((a0 &&& 4294967295) * (a1 &&& 4294967295)) ((32 : UInt64).toNat : Int))) &&& 4294967295) + ((a0 &&& 4294967295) * (shWr a1 ((32 : UInt64).toNat : Int)))) ((32 : UInt64).toNat : Int)), a0 * a1)
theorem bits_Mul64.ok {G R F} (a0 : UInt64) (a1 : UInt64) (r : UInt64 × UInt64) (hm : bits_Mul64 a0 a1 = r) : CO Tryz.prog 99 [vW a0, vW a1] G R (F)
    (Ret fun u R' L' => u = .tuple #[vW r.1, vW r.2] ∧ R' = R ∧ L' = F) := by
  unfold bits_Mul64 at hm
  refine co_ofN (N := 51) Tryz.func99 rfl rfl ?_
  refine c_seq ?_
  refine c_reg ?_
  refine r_u (o_as rfl) ?_
  refine r_u (o_as rfl) ?_
  refine r_nil ?_
  refine x_seq ?_
  refine c_seq ?_
  refine c_reg ?_
  refine r_u (o_mv rfl) ?_
  refine r_u (o_bin rfl rfl (bW_and a0 4294967295)) ?_
  refine r_u (o_as rfl) ?_
  refine r_nil ?_
  refine x_seq ?_
  refine c_seq ?_
  refine c_reg ?_
  refine r_u (o_mv rfl) ?_
  refine r_u (o_bin rfl rfl (bWW_shr a0 32)) ?_
  refine r_u (o_as rfl) ?_
  refine r_nil ?_
  refine x_seq ?_
  refine c_seq ?_
  refine c_reg ?_
  refine r_u (o_mv rfl) ?_
  refine r_u (o_bin rfl rfl (bW_and a1 4294967295)) ?_
  refine r_u (o_as rfl) ?_
  refine r_nil ?_
  refine x_seq ?_
  refine c_seq ?_
  refine c_reg ?_
  refine r_u (o_mv rfl) ?_
  refine r_u (o_bin rfl rfl (bWW_shr a1 32)) ?_
  refine r_u (o_as rfl) ?_
  refine r_nil ?_
  refine x_seq ?_
  refine c_seq ?_
  refine c_reg ?_
  refine r_u (o_mv rfl) ?_
  refine r_u (o_mv rfl) ?_
  refine r_u (o_bin rfl rfl (bW_mul (a0 &&& 4294967295) (a1 &&& 4294967295))) ?_
  refine r_u (o_as rfl) ?_
  refine r_nil ?_
  refine x_seq ?_
  refine c_seq ?_
  refine c_reg ?_
  refine r_u (o_mv rfl) ?_
  refine r_u (o_mv rfl) ?_
  refine r_u (o_bin rfl rfl (bW_mul (shWr a0 ((32 : UInt64).toNat : Int)) (a1 &&& 4294967295))) ?_
  refine r_u (o_mv rfl) ?_
  refine r_u (o_bin rfl rfl (bWW_shr ((a0 &&& 4294967295) * (a1 &&& 4294967295)) 32)) ?_
  refine r_u (o_bin rfl rfl (bW_add ((shWr a0 ((32 : UInt64).toNat : Int)) * (a1 &&& 4294967295)) (shWr ((a0 &&& 4294967295) * (a1 &&& 4294967295)) ((32 : UInt64).toNat : Int)))) ?_
  refine r_u (o_as rfl) ?_
  refine r_nil ?_
  refine x_seq ?_
  refine c_seq ?_
  refine c_reg ?_
  refine r_u (o_mv rfl) ?_
  refine r_u (o_bin rfl rfl (bW_and (((shWr a0 ((32 : UInt64).toNat : Int)) * (a1 &&& 4294967295)) + (shWr ((a0 &&& 4294967295) * (a1 &&& 4294967295)) ((32 : UInt64).toNat : Int))) 4294967295)) ?_
  refine r_u (o_as rfl) ?_
  refine r_nil ?_
  refine x_seq ?_
  refine c_seq ?_
  refine c_reg ?_
  refine r_u (o_mv rfl) ?_
  refine r_u (o_bin rfl rfl (bWW_shr (((shWr a0 ((32 : UInt64).toNat : Int)) * (a1 &&& 4294967295)) + (shWr ((a0 &&& 4294967295) * (a1 &&& 4294967295)) ((32 : UInt64).toNat : Int))) 32)) ?_
  refine r_u (o_as rfl) ?_
  refine r_nil ?_
  refine x_seq ?_
  refine c_seq ?_
  refine c_reg ?_
  refine r_u (o_mv rfl) ?_
  refine r_u (o_mv rfl) ?_
  refine r_u (o_mv rfl) ?_
  refine r_u (o_bin rfl rfl (bW_mul (a0 &&& 4294967295) (shWr a1 ((32 : UInt64).toNat : Int)))) ?_
  refine r_u (o_bin rfl rfl (bW_add ((((shWr a0 ((32 : UInt64).toNat : Int)) * (a1 &&& 4294967295)) + (shWr ((a0 &&& 4294967295) * (a1 &&& 4294967295)) ((32 : UInt64).toNat : Int))) &&& 4294967295) ((a0 &&& 4294967295) * (shWr a1 ((32 : UInt64).toNat : Int))))) ?_
  refine r_u (o_as rfl) ?_
  refine r_nil ?_
  refine x_seq ?_
  refine c_seq ?_
  refine c_reg ?_
  refine r_u (o_mv rfl) ?_
  refine r_u (o_mv rfl) ?_
  refine r_u (o_bin rfl rfl (bW_mul (shWr a0 ((32 : UInt64).toNat : Int)) (shWr a1 ((32 : UInt64).toNat : Int)))) ?_
  refine r_u (o_mv rfl) ?_
  refine r_u (o_bin rfl rfl (bW_add ((shWr a0 ((32 : UInt64).toNat : Int)) * (shWr a1 ((32 : UInt64).toNat : Int))) (shWr (((shWr a0 ((32 : UInt64).toNat : Int)) * (a1 &&& 4294967295)) + (shWr ((a0 &&& 4294967295) * (a1 &&& 4294967295)) ((32 : UInt64).toNat : Int))) ((32 : UInt64).toNat : Int)))) ?_
  refine r_u (o_mv rfl) ?_
  refine r_u (o_bin rfl rfl (bWW_shr (((((shWr a0 ((32 : UInt64).toNat : Int)) * (a1 &&& 4294967295)) + (shWr ((a0 &&& 4294967295) * (a1 &&& 4294967295)) ((32 : UInt64).toNat : Int))) &&& 4294967295) + ((a0 &&& 4294967295) * (shWr a1 ((32 : UInt64).toNat : Int)))) 32)) ?_
  refine r_u (o_bin rfl rfl (bW_add (((shWr a0 ((32 : UInt64).toNat : Int)) * (shWr a1 ((32 : UInt64).toNat : Int))) + (shWr (((shWr a0 ((32 : UInt64).toNat : Int)) * (a1 &&& 4294967295)) + (shWr ((a0 &&& 4294967295) * (a1 &&& 4294967295)) ((32 : UInt64).toNat : Int))) ((32 : UInt64).toNat : Int))) (shWr (((((shWr a0 ((32 : UInt64).toNat : Int)) * (a1 &&& 4294967295)) + (shWr ((a0 &&& 4294967295) * (a1 &&& 4294967295)) ((32 : UInt64).toNat : Int))) &&& 4294967295) + ((a0 &&& 4294967295) * (shWr a1 ((32 : UInt64).toNat : Int)))) ((32 : UInt64).toNat : Int)))) ?_
  refine r_u (o_as rfl) ?_
  refine r_nil ?_
  refine x_seq ?_
  refine c_seq ?_
  refine c_reg ?_
  refine r_u (o_mv rfl) ?_
  refine r_u (o_mv rfl) ?_
  refine r_u (o_bin rfl rfl (bW_mul a0 a1)) ?_
  refine r_u (o_as rfl) ?_
  refine r_nil ?_
  refine x_seq ?_
  refine c_ret ?_
  subst hm
  exact x_r2 rfl (rv_t rfl) (rv_t rfl) (Le.refl _) ⟨_, rfl, rfl, rfl, rfl⟩

def mix_Place (a0 : UInt64) (a1 : Int) (a2 : Int) : Int :=
  if decide (a2 < 1) then 0 else lt (bits_Mul64 (mix_Mix (a0 + ((toW a1) * 11400714819323198485))) (toW a2)) fun r2 => i64 (r2.1.toNat : Int)
theorem mix_Place.ok {G R F} (a0 : UInt64) (a1 : Int) (a2 : Int) (r : Int) (hm : mix_Place a0 a1 a2 = r) : CO Tryz.prog 90 [vW a0, vI a1, vI a2] G R (F)
    (Ret fun u R' L' => u = vI r ∧ R' = R ∧ L' = F) := by
  unfold mix_Place at hm
  refine co_ofN (N := 25) Tryz.func90 rfl rfl ?_
  refine c_seq ?_
  refine c_reg ?_
  refine r_u (o_as rfl) ?_
  refine r_nil ?_
  refine x_seq ?_
  refine c_seq ?_
  refine c_seq ?_
  refine c_reg ?_
  refine r_u (o_mv rfl) ?_
  refine r_u (o_bin rfl rfl (bI_lt a2 1)) ?_
  refine r_nil ?_
  refine x_seq ?_
  refine c_if (b := decide (a2 < 1)) rfl (fun h0 => ?_) fun h0 => ?_
  · have hm1 := ift hm h0
    clear hm
    refine c_seq ?_
    refine c_reg ?_
    refine r_u (o_as rfl) ?_
    refine r_nil ?_
    refine x_seq ?_
    refine c_ret ?_
    subst hm1
    exact x_r1 rfl (rv_t rfl) (Le.refl _) ⟨_, rfl, rfl, rfl, rfl⟩
  · have hm1 := iff_ hm h0
    clear hm
    refine c_skip ?_
    refine x_seq ?_
    refine c_seq ?_
    refine c_reg ?_
    refine r_u (o_mv rfl) ?_
    refine r_u (o_mv rfl) ?_
    refine r_u (o_cv rfl (cIW Tryz.underlying3 Tryz.underlying22 a1)) ?_
    refine r_u (o_bin rfl rfl (bW_mul (toW a1) 11400714819323198485)) ?_
    refine r_u (o_bin rfl rfl (bW_add a0 ((toW a1) * 11400714819323198485))) ?_
    refine r_u (o_callq ca100 rfl (mix_Mix.ok (a0 + ((toW a1) * 11400714819323198485)) _ rfl)) ?_
    refine r_u (o_mv rfl) ?_
    refine r_u (o_cv rfl (cIW Tryz.underlying3 Tryz.underlying22 a2)) ?_
    obtain ⟨r2, hr2, hm3⟩ := ltx hm1
    clear hm1
    refine r_u (o_callq ca99 rfl (bits_Mul64.ok (mix_Mix (a0 + ((toW a1) * 11400714819323198485))) (toW a2) r2 hr2)) ?_
    refine r_u (o_mv rfl) ?_
    refine r_u (o_ext rfl rfl) ?_
    refine r_u (o_ext rfl rfl) ?_
    refine r_u (o_as rfl) ?_
    refine r_u (o_as rfl) ?_
    refine r_nil ?_
    refine x_seq ?_
    refine c_seq ?_
    refine c_reg ?_
    refine r_u (o_mv rfl) ?_
    refine r_u (o_cv rfl (cWI Tryz.underlying22 Tryz.underlying3 r2.1)) ?_
    refine r_u (o_as rfl) ?_
    refine r_nil ?_
    refine x_seq ?_
    refine c_ret ?_
    subst hm3
    exact x_r1 rfl (rv_t rfl) (Le.refl _) ⟨_, rfl, rfl, rfl, rfl⟩

def sketch_Sketch_place (a0 : sketch_Sketch) (a1 : Str) (a2 : Int) : Option Int :=
  (mix_Of a0.seed a1).bind fun r2 => some (mix_Place r2 a2 a0.wide)
theorem sketch_Sketch_place.ok {G R F} (b0_ : Nat) (a0 : sketch_Sketch) (g0_ : sketch_Sketch.G) (a1 : Str) (a2 : Int) (r : Int) (hm : sketch_Sketch_place a0 a1 a2 = some r) : CO Tryz.prog 66 [pt b0_ 0, vS a1, vI a2] G R (Bk b0_ 84 [vI a0.wide, vW a0.seed, g0_.rows.1, g0_.rows.2.1, g0_.rows.2.2.1, g0_.rows.2.2.2, g0_.door, vI a0.added] :: OwL (OwS false 5 1 eY) [g0_.rows.1, g0_.rows.2.1, g0_.rows.2.2.1, g0_.rows.2.2.2] a0.rows :: OwS true 4 1 eB g0_.door a0.door :: F)
    (Ret fun u R' L' => u = vI r ∧ R' = R ∧ L' = Bk b0_ 84 [vI a0.wide, vW a0.seed, g0_.rows.1, g0_.rows.2.1, g0_.rows.2.2.1, g0_.rows.2.2.2, g0_.door, vI a0.added] :: OwL (OwS false 5 1 eY) [g0_.rows.1, g0_.rows.2.1, g0_.rows.2.2.1, g0_.rows.2.2.2] a0.rows :: OwS true 4 1 eB g0_.door a0.door :: F) := by
  unfold sketch_Sketch_place at hm
  refine co_ofN (N := 19) Tryz.func66 rfl rfl ?_
  refine c_seq ?_
  refine c_reg ?_
  refine r_u (o_as rfl) ?_
  refine r_nil ?_
  refine x_seq ?_
  refine c_seq ?_
  obtain ⟨r2, hr2, hm3⟩ := bs hm
  clear hm
  refine c_any mixed (effs := []) (V := []) ?_
  refine stage_ext [(0, pt b0_ 0), (1, pt b0_ 0), (2, pt b0_ 1), (3, vW a0.seed), (4, vS a1), (5, vW r2), (6, vI a2), (7, pt b0_ 0), (8, pt b0_ 0), (9, pt b0_ 0), (10, vI a0.wide), (11, vI (mix_Place r2 a2 a0.wide)), (12, vI (mix_Place r2 a2 a0.wide))] rfl ?_
  refine stage rfl rfl rfl rfl [0, 1, 3, 7, 0, 31, 0, 0, 128, 384, 896, 2047, 4095] [0, 1, 2, 3, 4, 5, 6, 7, 8, 9, 10, 11, 12] [] rfl rfl rfl (qc rfl rfl (s_u (o_mv rfl)) (qc rfl rfl (s_u (o_nc rfl)) (qc rfl rfl (s_u (o_fa fa84_1 rfl)) (qc rfl rfl (s_u (o_ld 0 sc22 rfl rfl rfl)) (qc rfl rfl (s_u (o_mv rfl)) (qc rfl rfl (s_u (o_callq ca91 rfl (mix_Of.ok a0.seed a1 r2 hr2))) (qc rfl rfl (s_u (o_mv rfl)) (qc rfl rfl (s_u (o_mv rfl)) (qc rfl rfl (s_u (o_nc rfl)) (qc rfl rfl (s_u (o_fa fa84_0 rfl)) (qc rfl rfl (s_u (o_ld 0 sc3 rfl rfl rfl)) (qc rfl rfl (s_u (o_callq ca90 rfl (mix_Place.ok r2 a2 a0.wide _ rfl))) (qc rfl rfl (s_u (o_as rfl)) qn))))))))))))) en ?_
  intro _
  refine ex_sub (E' := [(6, vI (mix_Place r2 a2 a0.wide))]) ⟨rfl, trivial⟩ ?_
  refine x_seq ?_
  refine c_ret ?_
  obtain rfl := Option.some.inj hm3
  exact x_r1 rfl (rv_t rfl) (Le.refl _) ⟨_, rfl, rfl, rfl, rfl⟩

def sketch_Sketch_least_l0 (a0 : sketch_Sketch) (a1 : Str) : Nat → UInt8 → Int → Option (UInt8)
  | 0, _, _ => none
  | k8 + 1, n_6, s_7 => if decide (s_7 < 4) then (gi a0.rows s_7).bind fun y13 => (sketch_Sketch_place a0 a1 s_7).bind fun r16 => (gi y13 r16).bind fun x18 => sketch_Sketch_least_l0 a0 a1 k8 (if x18 < n_6 then x18 else n_6) (i64 (s_7 + 1)) else some n_6
def sketch_Sketch_least (a0 : sketch_Sketch) (a1 : Str) : Option UInt8 :=
  Option.bind (sketch_Sketch_least_l0 a0 a1 5 15 0) fun p2 => some p2
theorem sketch_Sketch_least.ok {G R F} (b0_ : Nat) (a0 : sketch_Sketch) (g0_ : sketch_Sketch.G) (a1 : Str) (r : UInt8) (hm : sketch_Sketch_least a0 a1 = some r) : CO Tryz.prog 65 [pt b0_ 0, vS a1] G R (Bk b0_ 84 [vI a0.wide, vW a0.seed, g0_.rows.1, g0_.rows.2.1, g0_.rows.2.2.1, g0_.rows.2.2.2, g0_.door, vI a0.added] :: OwL (OwS false 5 1 eY) [g0_.rows.1, g0_.rows.2.1, g0_.rows.2.2.1, g0_.rows.2.2.2] a0.rows :: OwS true 4 1 eB g0_.door a0.door :: F)
    (Ret fun u R' L' => u = vY r ∧ R' = R ∧ L' = Bk b0_ 84 [vI a0.wide, vW a0.seed, g0_.rows.1, g0_.rows.2.1, g0_.rows.2.2.1, g0_.rows.2.2.2, g0_.door, vI a0.added] :: OwL (OwS false 5 1 eY) [g0_.rows.1, g0_.rows.2.1, g0_.rows.2.2.1, g0_.rows.2.2.2] a0.rows :: OwS true 4 1 eB g0_.door a0.door :: F) := by
  unfold sketch_Sketch_least at hm
  refine co_ofN (N := 26) Tryz.func65 rfl rfl ?_
  refine c_seq ?_
  refine c_reg ?_
  refine r_u (o_as rfl) ?_
  refine r_nil ?_
  refine x_seq ?_
  refine c_seq ?_
  refine c_reg ?_
  refine r_u (o_as rfl) ?_
  refine r_nil ?_
  refine x_seq ?_
  refine c_seq ?_
  refine c_seq ?_
  refine c_reg ?_
  refine r_u (o_mv rfl) ?_
  refine r_nil ?_
  refine x_seq ?_
  obtain ⟨p2, hp3, hm4⟩ := bs hm
  refine cd_join (E' := [(5, vY p2)]) (L' := Bk b0_ 84 [vI a0.wide, vW a0.seed, g0_.rows.1, g0_.rows.2.1, g0_.rows.2.2.1, g0_.rows.2.2.2, g0_.door, vI a0.added] :: OwL (OwS false 5 1 eY) [g0_.rows.1, g0_.rows.2.1, g0_.rows.2.2.1, g0_.rows.2.2.2] a0.rows :: OwS true 4 1 eB g0_.door a0.door :: F) ?_ fun K5 => ?_
  · refine x_seq ?_
    refine c_seq ?_
    refine c_reg ?_
    refine r_u (o_mv rfl) ?_
    refine r_u (o_as rfl) ?_
    refine r_nil ?_
    refine x_seq ?_
    refine c_ret ?_
    obtain rfl := Option.some.inj hm4
    exact x_r1 rfl (rv_t rfl) (Le.refl _) ⟨_, rfl, rfl, rfl, rfl⟩
  · refine c_blk ?_
    refine cd_loop (M := fun k8 (s : UInt8 × Int) => sketch_Sketch_least_l0 a0 a1 k8 s.1 s.2 = some p2) (Ef := fun (s : UInt8 × Int) => [(0, pt b0_ 0), (1, vS a1), (5, vY s.1), (7, vI s.2)]) (Lf := fun (s : UInt8 × Int) => Bk b0_ 84 [vI a0.wide, vW a0.seed, g0_.rows.1, g0_.rows.2.1, g0_.rows.2.2.1, g0_.rows.2.2.2, g0_.door, vI a0.added] :: OwL (OwS false 5 1 eY) [g0_.rows.1, g0_.rows.2.1, g0_.rows.2.2.1, g0_.rows.2.2.2] a0.rows :: OwS true 4 1 eB g0_.door a0.door :: F) 5 (15, 0) hp3 ⟨rfl, rfl, rfl, rfl, trivial⟩ (fun _ h => h) (fun _ h => by cases h) fun k8 s hM10 => ?_
    obtain ⟨n_6, s_7⟩ := s
    have hm9 : sketch_Sketch_least_l0 a0 a1 (k8 + 1) n_6 s_7 = some p2 := hM10
    rw [sketch_Sketch_least_l0] at hm9
    refine c_seq ?_
    refine c_reg ?_
    refine r_u (o_bin rfl rfl (bI_lt s_7 4)) ?_
    refine r_nil ?_
    refine x_seq ?_
    refine c_seq ?_
    refine c_if (b := decide (s_7 < 4)) rfl (fun h11 => ?_) fun h11 => ?_
    · have hm12 := ift hm9 h11
      clear hm9
      refine c_skip ?_
      refine x_seq ?_
      refine c_seq ?_
      refine c_blk ?_
      refine c_seq ?_
      refine c_reg ?_
      refine r_u (o_mv rfl) ?_
      refine r_u (o_as rfl) ?_
      refine r_nil ?_
      refine x_seq ?_
      obtain ⟨y13, hy13, hm15⟩ := bs hm12
      clear hm12
      refine cd_ex (fun w h => st_peek 1 hy13 rfl w h) fun u14 hu14 => ?_
      obtain ⟨r16, hr16, hm17⟩ := bs hm15
      clear hm15
      obtain ⟨x18, hx18, hm19⟩ := bs hm17
      clear hm17
      refine c_any mixed (effs := []) (V := []) ?_
      refine stage_ext [(0, vY n_6), (1, pt b0_ 0), (2, vI s_7), (3, pt b0_ 0), (4, pt b0_ 2), (5, pt b0_ (2 + s_7.toNat * 1)), (6, u14), (7, pt b0_ 0), (8, vS a1), (9, vI s_7), (10, vI r16), (11, pt (sb u14) (so u14 + r16.toNat * 1)), (12, vY x18), (13, vY (if x18 < n_6 then x18 else n_6)), (14, vY (if x18 < n_6 then x18 else n_6))] rfl ?_
      refine stage rfl rfl rfl rfl [0, 0, 0, 2, 10, 30, 62, 0, 0, 0, 896, 2046, 4094, 8191, 16383] [0, 1, 2, 3, 4, 5, 6, 7, 8, 9, 10, 11, 12, 13, 14] [] rfl rfl rfl (qc rfl rfl (s_u (o_mv rfl)) (qc rfl rfl (s_u (o_mv rfl)) (qc rfl rfl (s_u (o_mv rfl)) (qc rfl rfl (s_u (o_nc rfl)) (qc rfl rfl (s_u (o_fa fa84_2 rfl)) (qc rfl rfl (s_u (o_ixA (sz := 1) Tryz.underlying82 (fun _ => by kernel_rfl) rfl rfl (gi_some hu14).1)) (qc rfl rfl (s_u (o_ldA (o := 2) (n := 4) 0 sc81 rfl rfl hu14)) (qc rfl rfl (s_u (o_mv rfl)) (qc rfl rfl (s_u (o_mv rfl)) (qc rfl rfl (s_u (o_mv rfl)) (qc rfl rfl (s_u (o_callqP ca66 rfl (sketch_Sketch_place.ok b0_ a0 g0_ a1 s_7 r16 hr16) (fun _ h => st_pk 3 [0, 1, 2] (by decide) h) (fun _ h => st_pk 3 [0, 1, 2] (by decide) h))) (qc rfl rfl (s_u (o_ixK (kn_in 1 rfl hu14 hy13) Tryz.underlying81 (fun _ => by kernel_rfl) rfl rfl hx18)) (qc rfl rfl (s_u (o_ldK (kn_in 1 rfl hu14 hy13) 0 sc5 rfl hx18 rfl rfl)) (qc rfl rfl (s_u (o_minY rfl rfl)) (qc rfl rfl (s_u (o_as rfl)) qn))))))))))))))) en ?_
      intro _
      refine ex_sub (E' := [(0, pt b0_ 0), (1, vS a1), (5, vY (if x18 < n_6 then x18 else n_6)), (7, vI s_7)]) ⟨rfl, rfl, rfl, rfl, trivial⟩ ?_
      refine x_blk ?_
      refine x_seq ?_
      refine c_reg ?_
      refine r_u (o_bin rfl rfl (bI_add s_7 1)) ?_
      refine r_u (o_mv rfl) ?_
      refine r_nil ?_
      exact x_lp ((if x18 < n_6 then x18 else n_6), i64 (s_7 + 1)) hm19 ⟨rfl, rfl, rfl, rfl, trivial⟩ (fun _ h => st_pk 3 [0, 1, 2] (by decide) h)
    · have hm12 := iff_ hm9 h11
      clear hm9
      refine c_exit (x_exit (ks' := _) rfl ?_)
      obtain rfl := Option.some.inj hm12
      exact x_sub K5 ⟨rfl, trivial⟩ (fun _ h => st_pk 3 [0, 1, 2] (by decide) h)

def sketch_Sketch_Age_l1 (s_6 : Int) (y17 : List UInt8) : Nat → Int → (List (List UInt8)) → Option (List (List UInt8))
  | 0, _, _ => none
  | k26 + 1, s_24, c_25 => if decide (s_24 < (y17.length : Int)) then (gi c_25 s_6).bind fun y31 => (gi y31 s_24).bind fun x34 => sketch_Sketch_Age_l1 s_6 y17 k26 (i64 (s_24 + 1)) (ls c_25 s_6 (ls y31 s_24 (x34 / 2))) else some c_25
def sketch_Sketch_Age_l0  : Nat → Int → (List (List UInt8)) → Option (List (List UInt8))
  | 0, _, _ => none
  | k8 + 1, s_6, c_7 => if decide (s_6 < 4) then Option.bind ((gi c_7 s_6).bind fun y17 => Option.bind (sketch_Sketch_Age_l1 s_6 y17 (((y17.length : Int) - 0).toNat + 1) 0 c_7) fun p20 => some p20) fun p13 => sketch_Sketch_Age_l0 k8 (i64 (s_6 + 1)) p13 else some c_7
def sketch_Sketch_Age (a0 : sketch_Sketch) : Option sketch_Sketch :=
  Option.bind (sketch_Sketch_Age_l0 5 0 a0.rows) fun p2 => some (⟨a0.wide, a0.seed, p2, List.replicate a0.door.length false, i64 (a0.added.tdiv 2)⟩ : sketch_Sketch)
theorem sketch_Sketch_Age.ok {G R F} (b0_ : Nat) (a0 : sketch_Sketch) (g0_ : sketch_Sketch.G) (r : sketch_Sketch) (hm : sketch_Sketch_Age a0 = some r) : CO Tryz.prog 75 [pt b0_ 0] G R (Bk b0_ 84 [vI a0.wide, vW a0.seed, g0_.rows.1, g0_.rows.2.1, g0_.rows.2.2.1, g0_.rows.2.2.2, g0_.door, vI a0.added] :: OwL (OwS false 5 1 eY) [g0_.rows.1, g0_.rows.2.1, g0_.rows.2.2.1, g0_.rows.2.2.2] a0.rows :: OwS true 4 1 eB g0_.door a0.door :: F)
    (Ret fun u R' L' => u = .tuple #[] ∧ R' = R ∧ L' = Bk b0_ 84 [vI r.wide, vW r.seed, g0_.rows.1, g0_.rows.2.1, g0_.rows.2.2.1, g0_.rows.2.2.2, g0_.door, vI r.added] :: OwL (OwS false 5 1 eY) [g0_.rows.1, g0_.rows.2.1, g0_.rows.2.2.1, g0_.rows.2.2.2] r.rows :: OwS true 4 1 eB g0_.door r.door :: F) := by
  unfold sketch_Sketch_Age at hm
  refine co_ofN (N := 43) Tryz.func75 rfl rfl ?_
  refine c_seq ?_
  refine c_seq ?_
  refine c_reg ?_
  refine r_u (o_mv rfl) ?_
  refine r_u (o_bin rfl rfl (bP_eqp Tryz.underlying49)) ?_
  refine r_nil ?_
  refine x_seq ?_
  refine c_ff rfl ?_
  refine c_skip ?_
  refine x_seq ?_
  refine c_seq ?_
  refine c_seq ?_
  refine c_reg ?_
  refine r_u (o_mv rfl) ?_
  refine r_nil ?_
  refine x_seq ?_
  obtain ⟨p2, hp3, hm4⟩ := bs hm
  refine cd_join (E' := [(0, pt b0_ 0)]) (L' := Bk b0_ 84 [vI a0.wide, vW a0.seed, g0_.rows.1, g0_.rows.2.1, g0_.rows.2.2.1, g0_.rows.2.2.2, g0_.door, vI a0.added] :: OwL (OwS false 5 1 eY) [g0_.rows.1, g0_.rows.2.1, g0_.rows.2.2.1, g0_.rows.2.2.2] p2 :: OwS true 4 1 eB g0_.door a0.door :: F) ?_ fun K5 => ?_
  · refine x_seq ?_
    refine c_seq ?_
    refine c_reg ?_
    refine r_u (o_mv rfl) ?_
    refine r_u (o_nc rfl) ?_
    refine r_u (o_fa fa84_3 rfl) ?_
    refine r_u (o_ld 0 sc29 rfl rfl rfl) ?_
    refine rl_st (fun _ h => mv2 h) ?_
    refine r_u0 (o_clr (e := 4) (z1 := false) Tryz.underlying29 rfl rfl rfl rfl ⟨_, rfl, rfl⟩ rfl rfl) ?_
    refine r_nil ?_
    refine x_seq ?_
    refine c_reg ?_
    refine r_u (o_mv rfl) ?_
    refine r_u (o_nc rfl) ?_
    refine r_u (o_fa fa84_4 rfl) ?_
    refine r_u (o_ld 1 sc3 rfl rfl rfl) ?_
    refine r_u (o_bin rfl rfl (bI_quo a0.added 2 (by decide))) ?_
    refine r_u (o_nc rfl) ?_
    refine r_u (o_fa fa84_4 rfl) ?_
    refine rl_st (fun _ h => mv1 h) ?_
    refine r_u0 (o_st sc3 rfl rfl rfl rfl rfl rfl) ?_
    refine r_nil ?_
    refine x_end ?_
    obtain rfl := Option.some.inj hm4
    refine ex_st (fun _ h => st_pk 3 [0, 2, 1] (by decide) h) ?_
    exact x_r0 rfl (Le.refl _) ⟨_, rfl, rfl, rfl, rfl⟩
  · refine c_blk ?_
    refine cd_loop (M := fun k8 (s : Int × List (List UInt8)) => sketch_Sketch_Age_l0 k8 s.1 s.2 = some p2) (Ef := fun (s : Int × List (List UInt8)) => [(0, pt b0_ 0), (6, vI s.1)]) (Lf := fun (s : Int × List (List UInt8)) => Bk b0_ 84 [vI a0.wide, vW a0.seed, g0_.rows.1, g0_.rows.2.1, g0_.rows.2.2.1, g0_.rows.2.2.2, g0_.door, vI a0.added] :: OwL (OwS false 5 1 eY) [g0_.rows.1, g0_.rows.2.1, g0_.rows.2.2.1, g0_.rows.2.2.2] s.2 :: OwS true 4 1 eB g0_.door a0.door :: F) 5 (0, a0.rows) hp3 ⟨rfl, rfl, trivial⟩ (fun _ h => h) (fun _ h => by cases h) fun k8 s hM10 => ?_
    obtain ⟨s_6, c_7⟩ := s
    have hm9 : sketch_Sketch_Age_l0 (k8 + 1) s_6 c_7 = some p2 := hM10
    rw [sketch_Sketch_Age_l0] at hm9
    refine c_seq ?_
    refine c_reg ?_
    refine r_u (o_bin rfl rfl (bI_lt s_6 4)) ?_
    refine r_nil ?_
    refine x_seq ?_
    refine c_seq ?_
    refine c_if (b := decide (s_6 < 4)) rfl (fun h11 => ?_) fun h11 => ?_
    · have hm12 := ift hm9 h11
      clear hm9
      refine c_skip ?_
      refine x_seq ?_
      refine c_seq ?_
      obtain ⟨p13, hp14, hm15⟩ := bs hm12
      refine cd_join (E' := [(0, pt b0_ 0), (6, vI s_6)]) (L' := Bk b0_ 84 [vI a0.wide, vW a0.seed, g0_.rows.1, g0_.rows.2.1, g0_.rows.2.2.1, g0_.rows.2.2.2, g0_.door, vI a0.added] :: OwL (OwS false 5 1 eY) [g0_.rows.1, g0_.rows.2.1, g0_.rows.2.2.1, g0_.rows.2.2.2] p13 :: OwS true 4 1 eB g0_.door a0.door :: F) ?_ fun K16 => ?_
      · refine x_seq ?_
        refine c_reg ?_
        refine r_u (o_bin rfl rfl (bI_add s_6 1)) ?_
        refine r_u (o_mv rfl) ?_
        refine r_nil ?_
        exact x_lp (i64 (s_6 + 1), p13) hm15 ⟨rfl, rfl, trivial⟩ (fun _ h => st_pk 3 [0, 1, 2] (by decide) h)
      · refine c_blk ?_
        refine c_seq ?_
        refine c_reg ?_
        refine r_u (o_mv rfl) ?_
        refine r_u (o_as rfl) ?_
        refine r_nil ?_
        refine x_seq ?_
        refine c_seq ?_
        refine c_reg ?_
        refine r_u (o_mv rfl) ?_
        refine r_u (o_mv rfl) ?_
        refine r_u (o_nc rfl) ?_
        refine r_u (o_fa fa84_2 rfl) ?_
        obtain ⟨y17, hy17, hm19⟩ := bs hp14
        clear hp14
        refine rl_ex (fun w h => st_peek 1 hy17 rfl w h) fun u18 hu18 => ?_
        refine r_u (o_ixA (sz := 1) Tryz.underlying82 (fun _ => by kernel_rfl) rfl rfl (gi_some hu18).1) ?_
        refine r_u (o_ldA (o := 2) (n := 4) 0 sc81 rfl rfl hu18) ?_
        refine r_u (o_lenK (kn_in 1 rfl hu18 hy17) Tryz.underlying81 rfl) ?_
        refine r_u (o_mv rfl) ?_
        refine r_nil ?_
        refine x_seq ?_
        obtain ⟨p20, hp21, hm22⟩ := bs hm19
        refine cd_join (E' := [(0, pt b0_ 0), (6, vI s_6)]) (L' := Bk b0_ 84 [vI a0.wide, vW a0.seed, g0_.rows.1, g0_.rows.2.1, g0_.rows.2.2.1, g0_.rows.2.2.2, g0_.door, vI a0.added] :: OwL (OwS false 5 1 eY) [g0_.rows.1, g0_.rows.2.1, g0_.rows.2.2.1, g0_.rows.2.2.2] p20 :: OwS true 4 1 eB g0_.door a0.door :: F) ?_ fun K23 => ?_
        · refine x_blk ?_
          obtain rfl := Option.some.inj hm22
          exact x_sub K16 ⟨rfl, rfl, trivial⟩ (fun _ h => st_pk 3 [0, 1, 2] (by decide) h)
        · refine c_blk ?_
          refine cd_loop (M := fun k26 (s : Int × List (List UInt8)) => sketch_Sketch_Age_l1 s_6 y17 k26 s.1 s.2 = some p20) (Ef := fun (s : Int × List (List UInt8)) => [(0, pt b0_ 0), (2, vI s_6), (6, vI s_6), (15, vI (y17.length : Int)), (16, vI s.1)]) (Lf := fun (s : Int × List (List UInt8)) => Bk b0_ 84 [vI a0.wide, vW a0.seed, g0_.rows.1, g0_.rows.2.1, g0_.rows.2.2.1, g0_.rows.2.2.2, g0_.door, vI a0.added] :: OwL (OwS false 5 1 eY) [g0_.rows.1, g0_.rows.2.1, g0_.rows.2.2.1, g0_.rows.2.2.2] s.2 :: OwS true 4 1 eB g0_.door a0.door :: F) (((y17.length : Int) - 0).toNat + 1) (0, c_7) hp21 ⟨rfl, rfl, rfl, rfl, rfl, trivial⟩ (fun _ h => h) (fun _ h => by cases h) fun k26 s hM28 => ?_
          obtain ⟨s_24, c_25⟩ := s
          have hm27 : sketch_Sketch_Age_l1 s_6 y17 (k26 + 1) s_24 c_25 = some p20 := hM28
          rw [sketch_Sketch_Age_l1] at hm27
          refine c_seq ?_
          refine c_reg ?_
          refine r_u (o_bin rfl rfl (bI_lt s_24 (y17.length : Int))) ?_
          refine r_nil ?_
          refine x_seq ?_
          refine c_seq ?_
          refine c_if (b := decide (s_24 < (y17.length : Int))) rfl (fun h29 => ?_) fun h29 => ?_
          · have hm30 := ift hm27 h29
            clear hm27
            refine c_skip ?_
            refine x_seq ?_
            refine c_seq ?_
            refine c_blk ?_
            refine c_seq ?_
            refine c_reg ?_
            refine r_u (o_mv rfl) ?_
            refine r_u (o_as rfl) ?_
            refine r_nil ?_
            refine x_seq ?_
            refine c_reg ?_
            refine r_u (o_mv rfl) ?_
            refine r_u (o_mv rfl) ?_
            refine r_u (o_nc rfl) ?_
            refine r_u (o_fa fa84_2 rfl) ?_
            obtain ⟨y31, hy31, hm33⟩ := bs hm30
            clear hm30
            refine rl_ex (fun w h => st_peek 1 hy31 rfl w h) fun u32 hu32 => ?_
            refine r_u (o_ixA (sz := 1) Tryz.underlying82 (fun _ => by kernel_rfl) rfl rfl (gi_some hu32).1) ?_
            refine r_u (o_ldA (o := 2) (n := 4) 0 sc81 rfl rfl hu32) ?_
            refine r_u (o_mv rfl) ?_
            obtain ⟨x34, hx34, hm35⟩ := bs hm33
            clear hm33
            refine r_u (o_ixK (kn_in 1 rfl hu32 hy31) Tryz.underlying81 (fun _ => by kernel_rfl) rfl rfl hx34) ?_
            refine r_u (o_ldK (kn_in 1 rfl hu32 hy31) 0 sc5 rfl hx34 rfl rfl) ?_
            refine r_u (o_bin rfl rfl (bY_quo x34 2 (by decide))) ?_
            refine r_u (o_ixK (kn_in 1 rfl hu32 hy31) Tryz.underlying81 (fun _ => by kernel_rfl) rfl rfl hx34) ?_
            refine rl_st (fun _ h => mv1 h) ?_
            refine r_u0 (o_stL (c' := x34 / 2) 0 hu32 hy31 sc5 rfl rfl rfl hx34 rfl rfl rfl) ?_
            refine r_nil ?_
            refine x_blk ?_
            refine x_seq ?_
            refine c_reg ?_
            refine r_u (o_bin rfl rfl (bI_add s_24 1)) ?_
            refine r_u (o_mv rfl) ?_
            refine r_nil ?_
            exact x_lp (i64 (s_24 + 1), ls c_25 s_6 (ls y31 s_24 (x34 / 2))) hm35 ⟨rfl, rfl, rfl, rfl, rfl, trivial⟩ (fun _ h => st_pk 3 [1, 0, 2] (by decide) h)
          · have hm30 := iff_ hm27 h29
            clear hm27
            refine c_exit (x_exit (ks' := _) rfl ?_)
            obtain rfl := Option.some.inj hm30
            exact x_sub K23 ⟨rfl, rfl, trivial⟩ (fun _ h => st_pk 3 [0, 1, 2] (by decide) h)
    · have hm12 := iff_ hm9 h11
      clear hm9
      refine c_exit (x_exit (ks' := _) rfl ?_)
      obtain rfl := Option.some.inj hm12
      exact x_sub K5 ⟨rfl, trivial⟩ (fun _ h => st_pk 3 [0, 1, 2] (by decide) h)

def sketch_Sketch_Add_l0 (a0 : sketch_Sketch) (a1 : Str) (r16 : UInt8) : Nat → Int → (List (List UInt8)) → Option (List (List UInt8))
  | 0, _, _ => none
  | k24 + 1, s_22, c_23 => if decide (s_22 < 4) then (sketch_Sketch_place (⟨a0.wide, a0.seed, c_23, a0.door, a0.added⟩ : sketch_Sketch) a1 s_22).bind fun r29 => (gi c_23 s_22).bind fun y31 => (gi y31 r29).bind fun x34 => Option.bind (if ((x34 == r16) && decide (r16 < 15)) then some (ls c_23 s_22 (ls y31 r29 (x34 + 1))) else some c_23) fun p36 => sketch_Sketch_Add_l0 a0 a1 r16 k24 (i64 (s_22 + 1)) p36 else some c_23
def sketch_Sketch_Add (a0 : sketch_Sketch) (a1 : Str) : Option sketch_Sketch :=
  (sketch_Sketch_place a0 a1 4).bind fun r2 => (gi a0.door r2).bind fun x4 => Option.bind (if !x4 then some (ls a0.door r2 true, a0.rows) else (sketch_Sketch_least a0 a1).bind fun r16 => Option.bind (sketch_Sketch_Add_l0 a0 a1 r16 5 0 a0.rows) fun p18 => some (a0.door, p18)) fun p6 => if decide ((i64 (10 * a0.wide)) ≤ (i64 (a0.added + 1))) then (sketch_Sketch_Age (⟨a0.wide, a0.seed, p6.2, p6.1, i64 (a0.added + 1)⟩ : sketch_Sketch)).bind fun r12 => some r12 else some (⟨a0.wide, a0.seed, p6.2, p6.1, i64 (a0.added + 1)⟩ : sketch_Sketch)
theorem sketch_Sketch_Add.ok {G R F} (b0_ : Nat) (a0 : sketch_Sketch) (g0_ : sketch_Sketch.G) (a1 : Str) (r : sketch_Sketch) (hm : sketch_Sketch_Add a0 a1 = some r) : CO Tryz.prog 48 [pt b0_ 0, vS a1] G R (Bk b0_ 84 [vI a0.wide, vW a0.seed, g0_.rows.1, g0_.rows.2.1, g0_.rows.2.2.1, g0_.rows.2.2.2, g0_.door, vI a0.added] :: OwL (OwS false 5 1 eY) [g0_.rows.1, g0_.rows.2.1, g0_.rows.2.2.1, g0_.rows.2.2.2] a0.rows :: OwS true 4 1 eB g0_.door a0.door :: F)
    (Ret fun u R' L' => u = .tuple #[] ∧ R' = R ∧ L' = Bk b0_ 84 [vI r.wide, vW r.seed, g0_.rows.1, g0_.rows.2.1, g0_.rows.2.2.1, g0_.rows.2.2.2, g0_.door, vI r.added] :: OwL (OwS false 5 1 eY) [g0_.rows.1, g0_.rows.2.1, g0_.rows.2.2.1, g0_.rows.2.2.2] r.rows :: OwS true 4 1 eB g0_.door r.door :: F) := by
  unfold sketch_Sketch_Add at hm
  refine co_ofN (N := 83) Tryz.func48 rfl rfl ?_
  refine c_seq ?_
  refine c_seq ?_
  refine c_reg ?_
  refine r_u (o_mv rfl) ?_
  refine r_u (o_bin rfl rfl (bP_eqp Tryz.underlying49)) ?_
  refine r_nil ?_
  refine x_seq ?_
  refine c_ff rfl ?_
  refine c_skip ?_
  refine x_seq ?_
  refine c_seq ?_
  refine c_seq ?_
  refine c_reg ?_
  refine r_u (o_mv rfl) ?_
  refine r_u (o_mv rfl) ?_
  obtain ⟨r2, hr2, hm3⟩ := bs hm
  clear hm
  refine r_c (s_w (o_call ca66 rfl (sketch_Sketch_place.ok b0_ a0 g0_ a1 4 r2 hr2))) ?_
  refine r_u (o_as rfl) ?_
  refine r_nil ?_
  refine x_seq ?_
  refine c_seq ?_
  refine c_reg ?_
  refine r_u (o_mv rfl) ?_
  refine r_u (o_nc rfl) ?_
  refine r_u (o_fa fa84_3 rfl) ?_
  refine r_u (o_ld 0 sc29 rfl rfl rfl) ?_
  refine r_u (o_mv rfl) ?_
  obtain ⟨x4, hx4, hm5⟩ := bs hm3
  clear hm3
  refine r_u (o_ixO 2 Tryz.underlying29 (fun _ => by kernel_rfl) rfl rfl rfl hx4) ?_
  refine r_u (o_ldO0 2 sc4 rfl rfl hx4 rfl rfl) ?_
  refine r_u (o_not rfl) ?_
  refine r_nil ?_
  refine x_seq ?_
  obtain ⟨p6, hp7, hm8⟩ := bs hm5
  refine cd_join (E' := [(0, pt b0_ 0)]) (L' := Bk b0_ 84 [vI a0.wide, vW a0.seed, g0_.rows.1, g0_.rows.2.1, g0_.rows.2.2.1, g0_.rows.2.2.2, g0_.door, vI a0.added] :: OwS true 4 1 eB g0_.door p6.1 :: OwL (OwS false 5 1 eY) [g0_.rows.1, g0_.rows.2.1, g0_.rows.2.2.1, g0_.rows.2.2.2] p6.2 :: F) ?_ fun K9 => ?_
  · refine x_seq ?_
    refine c_seq ?_
    refine c_reg ?_
    refine r_u (o_mv rfl) ?_
    refine r_u (o_nc rfl) ?_
    refine r_u (o_fa fa84_4 rfl) ?_
    refine r_u (o_ld 0 sc3 rfl rfl rfl) ?_
    refine r_u (o_bin rfl rfl (bI_add a0.added 1)) ?_
    refine r_u (o_nc rfl) ?_
    refine r_u (o_fa fa84_4 rfl) ?_
    refine r_u0 (o_st sc3 rfl rfl rfl rfl rfl rfl) ?_
    refine r_nil ?_
    refine x_seq ?_
    refine c_seq ?_
    refine c_any mixed (effs := []) (V := []) ?_
    refine stage_ext [(0, pt b0_ 0), (1, pt b0_ 0), (2, pt b0_ 7), (3, vI (i64 (a0.added + 1))), (4, pt b0_ 0), (5, pt b0_ 0), (6, pt b0_ 0), (7, vI a0.wide), (8, vI (i64 (10 * a0.wide))), (9, vB (decide ((i64 (10 * a0.wide)) ≤ (i64 (a0.added + 1)))))] rfl ?_
    refine stage rfl rfl rfl rfl [0, 1, 3, 7, 0, 16, 48, 112, 240, 511] [0, 1, 2, 3, 4, 5, 6, 7, 8, 9] [] rfl rfl rfl (qc rfl rfl (s_u (o_mv rfl)) (qc rfl rfl (s_u (o_nc rfl)) (qc rfl rfl (s_u (o_fa fa84_4 rfl)) (qc rfl rfl (s_u (o_ld 0 sc3 rfl rfl rfl)) (qc rfl rfl (s_u (o_mv rfl)) (qc rfl rfl (s_u (o_nc rfl)) (qc rfl rfl (s_u (o_fa fa84_0 rfl)) (qc rfl rfl (s_u (o_ld 0 sc3 rfl rfl rfl)) (qc rfl rfl (s_u (o_bin rfl rfl (bI_mul 10 a0.wide))) (qc rfl rfl (s_u (o_bin rfl rfl (bI_ge (i64 (a0.added + 1)) (i64 (10 * a0.wide))))) qn)))))))))) en ?_
    intro _
    refine ex_sub (E' := [(0, pt b0_ 0), (80, vB (decide ((i64 (10 * a0.wide)) ≤ (i64 (a0.added + 1)))))]) ⟨rfl, rfl, trivial⟩ ?_
    refine x_seq ?_
    refine c_if (b := decide ((i64 (10 * a0.wide)) ≤ (i64 (a0.added + 1)))) rfl (fun h10 => ?_) fun h10 => ?_
    · have hm11 := ift hm8 h10
      clear hm8
      refine c_reg ?_
      refine r_u (o_mv rfl) ?_
      obtain ⟨r12, hr12, hm13⟩ := bs hm11
      clear hm11
      refine rl_st (fun _ h => mv2 (mv2 (mv1 h))) ?_
      refine r_c (s_w (o_call ca75 rfl (sketch_Sketch_Age.ok b0_ (⟨a0.wide, a0.seed, p6.2, p6.1, i64 (a0.added + 1)⟩ : sketch_Sketch) g0_ r12 hr12))) ?_
      refine r_nil ?_
      refine x_end ?_
      obtain rfl := Option.some.inj hm13
      exact x_r0 rfl (Le.refl _) ⟨_, rfl, rfl, rfl, rfl⟩
    · have hm11 := iff_ hm8 h10
      clear hm8
      refine c_skip ?_
      refine x_end ?_
      obtain rfl := Option.some.inj hm11
      refine ex_st (fun _ h => st_pk 3 [0, 2, 1] (by decide) h) ?_
      exact x_r0 rfl (Le.refl _) ⟨_, rfl, rfl, rfl, rfl⟩
  · refine c_if (b := !x4) rfl (fun h14 => ?_) fun h14 => ?_
    · have hm15 := ift hp7 h14
      clear hp7
      refine c_reg ?_
      refine r_u (o_mv rfl) ?_
      refine r_u (o_nc rfl) ?_
      refine r_u (o_fa fa84_3 rfl) ?_
      refine r_u (o_ld 0 sc29 rfl rfl rfl) ?_
      refine r_u (o_mv rfl) ?_
      refine r_u (o_ixO 2 Tryz.underlying29 (fun _ => by kernel_rfl) rfl rfl rfl hx4) ?_
      refine rl_st (fun _ h => mv2 h) ?_
      refine r_u0 (o_stO0 (c' := true) sc4 rfl rfl rfl hx4 rfl rfl rfl) ?_
      refine r_nil ?_
      obtain rfl := Option.some.inj hm15
      exact x_sub K9 ⟨rfl, trivial⟩ (fun _ h => st_pk 3 [1, 0, 2] (by decide) h)
    · have hm15 := iff_ hp7 h14
      clear hp7
      refine c_seq ?_
      refine c_reg ?_
      refine r_u (o_mv rfl) ?_
      refine r_u (o_mv rfl) ?_
      obtain ⟨r16, hr16, hm17⟩ := bs hm15
      clear hm15
      refine r_c (s_w (o_call ca65 rfl (sketch_Sketch_least.ok b0_ a0 g0_ a1 r16 hr16))) ?_
      refine r_u (o_as rfl) ?_
      refine r_nil ?_
      refine x_seq ?_
      refine c_seq ?_
      refine c_reg ?_
      refine r_u (o_mv rfl) ?_
      refine r_nil ?_
      refine x_seq ?_
      obtain ⟨p18, hp19, hm20⟩ := bs hm17
      refine cd_join (E' := [(0, pt b0_ 0)]) (L' := Bk b0_ 84 [vI a0.wide, vW a0.seed, g0_.rows.1, g0_.rows.2.1, g0_.rows.2.2.1, g0_.rows.2.2.2, g0_.door, vI a0.added] :: OwL (OwS false 5 1 eY) [g0_.rows.1, g0_.rows.2.1, g0_.rows.2.2.1, g0_.rows.2.2.2] p18 :: OwS true 4 1 eB g0_.door a0.door :: F) ?_ fun K21 => ?_
      · obtain rfl := Option.some.inj hm20
        exact x_sub K9 ⟨rfl, trivial⟩ (fun _ h => st_pk 3 [0, 2, 1] (by decide) h)
      · refine c_blk ?_
        refine cd_loop (M := fun k24 (s : Int × List (List UInt8)) => sketch_Sketch_Add_l0 a0 a1 r16 k24 s.1 s.2 = some p18) (Ef := fun (s : Int × List (List UInt8)) => [(0, pt b0_ 0), (1, vS a1), (5, vY r16), (30, vI s.1)]) (Lf := fun (s : Int × List (List UInt8)) => Bk b0_ 84 [vI a0.wide, vW a0.seed, g0_.rows.1, g0_.rows.2.1, g0_.rows.2.2.1, g0_.rows.2.2.2, g0_.door, vI a0.added] :: OwL (OwS false 5 1 eY) [g0_.rows.1, g0_.rows.2.1, g0_.rows.2.2.1, g0_.rows.2.2.2] s.2 :: OwS true 4 1 eB g0_.door a0.door :: F) 5 (0, a0.rows) hp19 ⟨rfl, rfl, rfl, rfl, trivial⟩ (fun _ h => h) (fun _ h => by cases h) fun k24 s hM26 => ?_
        obtain ⟨s_22, c_23⟩ := s
        have hm25 : sketch_Sketch_Add_l0 a0 a1 r16 (k24 + 1) s_22 c_23 = some p18 := hM26
        rw [sketch_Sketch_Add_l0] at hm25
        refine c_seq ?_
        refine c_reg ?_
        refine r_u (o_bin rfl rfl (bI_lt s_22 4)) ?_
        refine r_nil ?_
        refine x_seq ?_
        refine c_seq ?_
        refine c_if (b := decide (s_22 < 4)) rfl (fun h27 => ?_) fun h27 => ?_
        · have hm28 := ift hm25 h27
          clear hm25
          refine c_skip ?_
          refine x_seq ?_
          refine c_seq ?_
          refine c_blk ?_
          refine c_seq ?_
          refine c_reg ?_
          refine r_u (o_mv rfl) ?_
          refine r_u (o_as rfl) ?_
          refine r_nil ?_
          refine x_seq ?_
          refine c_seq ?_
          refine c_reg ?_
          refine r_u (o_mv rfl) ?_
          refine r_u (o_mv rfl) ?_
          refine r_u (o_mv rfl) ?_
          obtain ⟨r29, hr29, hm30⟩ := bs hm28
          clear hm28
          refine r_c (s_w (o_call ca66 rfl (sketch_Sketch_place.ok b0_ (⟨a0.wide, a0.seed, c_23, a0.door, a0.added⟩ : sketch_Sketch) g0_ a1 s_22 r29 hr29))) ?_
          refine r_u (o_as rfl) ?_
          refine r_nil ?_
          refine x_seq ?_
          refine c_seq ?_
          refine c_reg ?_
          refine r_u (o_mv rfl) ?_
          refine r_u (o_mv rfl) ?_
          refine r_u (o_nc rfl) ?_
          refine r_u (o_fa fa84_2 rfl) ?_
          obtain ⟨y31, hy31, hm33⟩ := bs hm30
          clear hm30
          refine rl_ex (fun w h => st_peek 1 hy31 rfl w h) fun u32 hu32 => ?_
          refine r_u (o_ixA (sz := 1) Tryz.underlying82 (fun _ => by kernel_rfl) rfl rfl (gi_some hu32).1) ?_
          refine r_u (o_ldA (o := 2) (n := 4) 0 sc81 rfl rfl hu32) ?_
          refine r_u (o_mv rfl) ?_
          obtain ⟨x34, hx34, hm35⟩ := bs hm33
          clear hm33
          refine r_u (o_ixK (kn_in 1 rfl hu32 hy31) Tryz.underlying81 (fun _ => by kernel_rfl) rfl rfl hx34) ?_
          refine r_u (o_ldK (kn_in 1 rfl hu32 hy31) 0 sc5 rfl hx34 rfl rfl) ?_
          refine r_u (o_mv rfl) ?_
          refine r_u (o_bin rfl rfl (bY_eq x34 r16)) ?_
          refine r_u (o_mv rfl) ?_
          refine r_s (s_gt rfl rfl fun g => o_mv rfl) ?_
          refine r_s (s_gt rfl rfl fun g => o_bin (evg rfl g) rfl (bY_lt r16 15)) ?_
          refine r_u (o_and rfl rfl) ?_
          refine r_nil ?_
          refine x_seq ?_
          obtain ⟨p36, hp37, hm38⟩ := bs hm35
          refine cd_join (E' := [(0, pt b0_ 0), (1, vS a1), (5, vY r16), (30, vI s_22)]) (L' := Bk b0_ 84 [vI a0.wide, vW a0.seed, g0_.rows.1, g0_.rows.2.1, g0_.rows.2.2.1, g0_.rows.2.2.2, g0_.door, vI a0.added] :: OwL (OwS false 5 1 eY) [g0_.rows.1, g0_.rows.2.1, g0_.rows.2.2.1, g0_.rows.2.2.2] p36 :: OwS true 4 1 eB g0_.door a0.door :: F) ?_ fun K39 => ?_
          · refine x_blk ?_
            refine x_seq ?_
            refine c_reg ?_
            refine r_u (o_bin rfl rfl (bI_add s_22 1)) ?_
            refine r_u (o_mv rfl) ?_
            refine r_nil ?_
            exact x_lp (i64 (s_22 + 1), p36) hm38 ⟨rfl, rfl, rfl, rfl, trivial⟩ (fun _ h => st_pk 3 [0, 1, 2] (by decide) h)
          · refine c_if (b := ((x34 == r16) && decide (r16 < 15))) rfl (fun h40 => ?_) fun h40 => ?_
            · have hm41 := ift hp37 h40
              clear hp37
              refine c_reg ?_
              refine r_u (o_mv rfl) ?_
              refine r_u (o_mv rfl) ?_
              refine r_u (o_nc rfl) ?_
              refine r_u (o_fa fa84_2 rfl) ?_
              refine r_u (o_ixA (sz := 1) Tryz.underlying82 (fun _ => by kernel_rfl) rfl rfl (gi_some hu32).1) ?_
              refine r_u (o_ldA (o := 2) (n := 4) 0 sc81 rfl rfl hu32) ?_
              refine r_u (o_mv rfl) ?_
              refine r_u (o_ixK (kn_in 1 rfl hu32 hy31) Tryz.underlying81 (fun _ => by kernel_rfl) rfl rfl hx34) ?_
              refine r_u (o_ldK (kn_in 1 rfl hu32 hy31) 0 sc5 rfl hx34 rfl rfl) ?_
              refine r_u (o_bin rfl rfl (bY_add x34 1)) ?_
              refine r_u (o_ixK (kn_in 1 rfl hu32 hy31) Tryz.underlying81 (fun _ => by kernel_rfl) rfl rfl hx34) ?_
              refine rl_st (fun _ h => mv1 h) ?_
              refine r_u0 (o_stL (c' := x34 + 1) 0 hu32 hy31 sc5 rfl rfl rfl hx34 rfl rfl rfl) ?_
              refine r_nil ?_
              obtain rfl := Option.some.inj hm41
              exact x_sub K39 ⟨rfl, rfl, rfl, rfl, trivial⟩ (fun _ h => st_pk 3 [1, 0, 2] (by decide) h)
            · have hm41 := iff_ hp37 h40
              clear hp37
              refine c_skip ?_
              obtain rfl := Option.some.inj hm41
              exact x_sub K39 ⟨rfl, rfl, rfl, rfl, trivial⟩ (fun _ h => st_pk 3 [0, 1, 2] (by decide) h)
        · have hm28 := iff_ hm25 h27
          clear hm25
          refine c_exit (x_exit (ks' := _) rfl ?_)
          obtain rfl := Option.some.inj hm28
          exact x_sub K21 ⟨rfl, trivial⟩ (fun _ h => st_pk 3 [0, 1, 2] (by decide) h)

def ring_Rings_is (a0 : ring_Rings) (a1 : Int) : Bool :=
  (decide (0 ≤ a1) && decide (a1 < a0.lists))
theorem ring_Rings_is.ok {G R F} (b0_ : Nat) (a0 : ring_Rings) (g0_ : ring_Rings.G) (a1 : Int) (r : Bool) (hm : ring_Rings_is a0 a1 = r) : CO Tryz.prog 76 [pt b0_ 0, vI a1] G R (Bk b0_ 89 [vI a0.lists, g0_.slots, g0_.free, g0_.at_, g0_.many] :: OwS true 91 4 ring_slot.c g0_.slots a0.slots :: OwS true 3 1 eI g0_.free a0.free :: OwM vS vI g0_.at_ a0.at_ :: OwS true 3 1 eI g0_.many a0.many :: F)
    (Ret fun u R' L' => u = vB r ∧ R' = R ∧ L' = Bk b0_ 89 [vI a0.lists, g0_.slots, g0_.free, g0_.at_, g0_.many] :: OwS true 91 4 ring_slot.c g0_.slots a0.slots :: OwS true 3 1 eI g0_.free a0.free :: OwM vS vI g0_.at_ a0.at_ :: OwS true 3 1 eI g0_.many a0.many :: F) := by
  unfold ring_Rings_is at hm
  refine co_ofN (N := 19) Tryz.func76 rfl rfl ?_
  refine c_seq ?_
  refine c_reg ?_
  refine r_u (o_as rfl) ?_
  refine r_nil ?_
  refine x_seq ?_
  refine c_seq ?_
  refine c_reg ?_
  refine r_u (o_mv rfl) ?_
  refine r_u (o_bin rfl rfl (bP_nep Tryz.underlying53)) ?_
  refine r_u (o_mv rfl) ?_
  refine r_s (s_y rfl rfl rfl (o_mv rfl)) ?_
  refine r_s (s_y rfl rfl rfl (o_bin rfl rfl (bI_ge a1 0))) ?_
  refine r_u (o_pt rfl rfl rfl) ?_
  refine r_u (o_mv rfl) ?_
  refine r_s (s_gt rfl rfl fun g => o_mv rfl) ?_
  refine r_s (s_gt rfl rfl fun g => o_mv rfl) ?_
  refine r_s (s_gt rfl rfl fun g => o_nc (evg rfl g)) ?_
  refine r_s (s_gt rfl rfl fun g => o_fa fa89_0 (evg rfl g)) ?_
  refine r_s (s_gt rfl rfl fun g => o_ld 0 sc3 (evg rfl g) rfl rfl) ?_
  refine r_s (s_gt rfl rfl fun g => o_bin (evg rfl g) (evg rfl g) (bI_lt a1 a0.lists)) ?_
  refine r_u (o_and rfl rfl) ?_
  refine r_u (o_as rfl) ?_
  refine r_nil ?_
  refine x_seq ?_
  refine c_ret ?_
  subst hm
  exact x_r1 rfl (rv_t rfl) (Le.refl _) ⟨_, rfl, rfl, rfl, rfl⟩

def ring_Rings_cut (a0 : ring_Rings) (a1 : Int) : Option ring_Rings :=
  (gi a0.slots a1).bind fun x4 => (gi a0.slots x4.prev).bind fun x6 => (gi (ls a0.slots x4.prev (⟨x6.key, x6.list, x6.prev, x4.next⟩ : ring_slot)) x4.next).bind fun x8 => (gi (ls (ls a0.slots x4.prev (⟨x6.key, x6.list, x6.prev, x4.next⟩ : ring_slot)) x4.next (⟨x8.key, x8.list, x4.prev, x8.next⟩ : ring_slot)) a1).bind fun x10 => (gi a0.many x10.list).bind fun x12 => some (⟨a0.lists, ls (ls a0.slots x4.prev (⟨x6.key, x6.list, x6.prev, x4.next⟩ : ring_slot)) x4.next (⟨x8.key, x8.list, x4.prev, x8.next⟩ : ring_slot), a0.free, a0.at_, ls a0.many x10.list (i64 (x12 - 1))⟩ : ring_Rings)
theorem ring_Rings_cut.ok {G R F} (b0_ : Nat) (a0 : ring_Rings) (g0_ : ring_Rings.G) (a1 : Int) (r : ring_Rings) (hm : ring_Rings_cut a0 a1 = some r) : CO Tryz.prog 77 [pt b0_ 0, vI a1] G R (Bk b0_ 89 [vI a0.lists, g0_.slots, g0_.free, g0_.at_, g0_.many] :: OwS true 91 4 ring_slot.c g0_.slots a0.slots :: OwS true 3 1 eI g0_.free a0.free :: OwM vS vI g0_.at_ a0.at_ :: OwS true 3 1 eI g0_.many a0.many :: F)
    (Ret fun u R' L' => u = .tuple #[] ∧ R' = R ∧ L' = Bk b0_ 89 [vI r.lists, g0_.slots, g0_.free, g0_.at_, g0_.many] :: OwS true 91 4 ring_slot.c g0_.slots r.slots :: OwS true 3 1 eI g0_.free r.free :: OwM vS vI g0_.at_ r.at_ :: OwS true 3 1 eI g0_.many r.many :: F) := by
  unfold ring_Rings_cut at hm
  refine co_ofN (N := 51) Tryz.func77 rfl rfl ?_
  refine c_seq ?_
  refine c_reg ?_
  refine r_u (o_mv rfl) ?_
  refine r_u (o_nc rfl) ?_
  refine r_u (o_fa fa89_1 rfl) ?_
  refine r_u (o_ld 0 sc87 rfl rfl rfl) ?_
  refine r_u (o_mv rfl) ?_
  obtain ⟨x4, hx4, hm5⟩ := bs hm
  clear hm
  refine r_u (o_ixO 1 Tryz.underlying87 (fun _ => by kernel_rfl) rfl rfl rfl hx4) ?_
  refine r_u (o_as rfl) ?_
  refine r_nil ?_
  refine x_seq ?_
  refine c_seq ?_
  obtain ⟨x6, hx6, hm7⟩ := bs hm5
  clear hm5
  obtain ⟨x8, hx8, hm9⟩ := bs hm7
  clear hm7
  refine c_any mixed (effs := [26, 29]) (V := []) ?_
  refine stage_st (fun _ h => mv1 h) ?_
  refine stage_ext [(0, pt b0_ 0), (1, pt b0_ 0), (2, pt b0_ 1), (3, g0_.slots), (4, pt (sb g0_.slots) (so g0_.slots + a1.toNat * 4)), (5, pt (sb g0_.slots) (so g0_.slots + a1.toNat * 4)), (6, pt (sb g0_.slots) (so g0_.slots + a1.toNat * 4 + 2)), (7, vI x4.prev), (8, pt b0_ 0), (9, pt b0_ 0), (10, pt b0_ 1), (11, g0_.slots), (12, pt (sb g0_.slots) (so g0_.slots + a1.toNat * 4)), (13, pt (sb g0_.slots) (so g0_.slots + a1.toNat * 4)), (14, pt (sb g0_.slots) (so g0_.slots + a1.toNat * 4 + 3)), (15, vI x4.next), (16, pt (sb g0_.slots) (so g0_.slots + a1.toNat * 4)), (17, pt (sb g0_.slots) (so g0_.slots + a1.toNat * 4)), (18, pt (sb g0_.slots) (so g0_.slots + a1.toNat * 4 + 3)), (19, vI x4.next), (20, pt (sb g0_.slots) (so g0_.slots + a1.toNat * 4)), (21, pt (sb g0_.slots) (so g0_.slots + a1.toNat * 4)), (22, pt (sb g0_.slots) (so g0_.slots + a1.toNat * 4 + 2)), (23, vI x4.prev), (24, pt (sb g0_.slots) (so g0_.slots + x4.prev.toNat * 4)), (25, pt (sb g0_.slots) (so g0_.slots + x4.prev.toNat * 4 + 3))] rfl ?_
  refine stage rfl rfl rfl rfl [0, 1, 3, 7, 0, 16, 48, 112, 0, 256, 768, 1792, 0, 4096, 12288, 28672, 0, 65536, 196608, 458752, 0, 1048576, 3145728, 7340032, 16777215, 33554431, 67108863, 134217727, 268435455, 536870911] [0, 1, 2, 3, 4, 5, 6, 7, 8, 9, 10, 11, 12, 13, 14, 15, 16, 17, 18, 19, 20, 21, 22, 23, 24, 25] [26] rfl rfl rfl (qc rfl rfl (s_u (o_mv rfl)) (qc rfl rfl (s_u (o_nc rfl)) (qc rfl rfl (s_u (o_fa fa89_1 rfl)) (qc rfl rfl (s_u (o_ld 1 sc87 rfl rfl rfl)) (qc rfl rfl (s_u (o_mv rfl)) (qc rfl rfl (s_u (o_nc rfl)) (qc rfl rfl (s_u (o_fa fa91_2 rfl)) (qc rfl rfl (s_u (o_ldO 0 2 sc3 rfl rfl hx4 rfl rfl)) (qc rfl rfl (s_u (o_mv rfl)) (qc rfl rfl (s_u (o_nc rfl)) (qc rfl rfl (s_u (o_fa fa89_1 rfl)) (qc rfl rfl (s_u (o_ld 1 sc87 rfl rfl rfl)) (qc rfl rfl (s_u (o_mv rfl)) (qc rfl rfl (s_u (o_nc rfl)) (qc rfl rfl (s_u (o_fa fa91_3 rfl)) (qc rfl rfl (s_u (o_ldO 0 3 sc3 rfl rfl hx4 rfl rfl)) (qc rfl rfl (s_u (o_mv rfl)) (qc rfl rfl (s_u (o_nc rfl)) (qc rfl rfl (s_u (o_fa fa91_3 rfl)) (qc rfl rfl (s_u (o_ldO 0 3 sc3 rfl rfl hx4 rfl rfl)) (qc rfl rfl (s_u (o_mv rfl)) (qc rfl rfl (s_u (o_nc rfl)) (qc rfl rfl (s_u (o_fa fa91_2 rfl)) (qc rfl rfl (s_u (o_ldO 0 2 sc3 rfl rfl hx4 rfl rfl)) (qc rfl rfl (s_u (o_ixO 0 Tryz.underlying87 (fun _ => by kernel_rfl) rfl rfl rfl hx6)) (qc rfl rfl (s_u (o_fa fa91_3 rfl)) qn)))))))))))))))))))))))))) ?_ (fun h => absurd h (by decide))
  refine ec (eo_u rfl (s_u (o_stO (c' := (⟨x6.key, x6.list, x6.prev, x4.next⟩ : ring_slot)) 3 sc3 rfl rfl rfl hx6 rfl rfl rfl)) (Le.refl _) ?_) en
  refine stage_ext [(27, pt (sb g0_.slots) (so g0_.slots + x4.next.toNat * 4)), (28, pt (sb g0_.slots) (so g0_.slots + x4.next.toNat * 4 + 2))] rfl ?_
  refine stage rfl rfl rfl rfl [0, 1, 3, 7, 0, 16, 48, 112, 0, 256, 768, 1792, 0, 4096, 12288, 28672, 0, 65536, 196608, 458752, 0, 1048576, 3145728, 7340032, 16777215, 33554431, 67108863, 134217727, 268435455, 536870911] [27, 28] [29] rfl rfl rfl (qc rfl rfl (s_u (o_ixO 0 Tryz.underlying87 (fun _ => by kernel_rfl) rfl rfl rfl hx8)) (qc rfl rfl (s_u (o_fa fa91_2 rfl)) qn)) ?_ (fun h => absurd h (by decide))
  refine ec (eo_u rfl (s_u (o_stO (c' := (⟨x8.key, x8.list, x4.prev, x8.next⟩ : ring_slot)) 2 sc3 rfl rfl rfl hx8 rfl rfl rfl)) (Le.refl _) ?_) en
  refine stage rfl rfl rfl rfl [0, 1, 3, 7, 0, 16, 48, 112, 0, 256, 768, 1792, 0, 4096, 12288, 28672, 0, 65536, 196608, 458752, 0, 1048576, 3145728, 7340032, 16777215, 33554431, 67108863, 134217727, 268435455, 536870911] [] [] rfl rfl rfl qn en ?_
  intro _
  refine ex_sub (E' := [(0, pt b0_ 0), (4, pt (sb g0_.slots) (so g0_.slots + a1.toNat * 4))]) ⟨rfl, rfl, trivial⟩ ?_
  refine x_seq ?_
  obtain ⟨x10, hx10, hm11⟩ := bs hm9
  clear hm9
  obtain ⟨x12, hx12, hm13⟩ := bs hm11
  clear hm11
  refine c_any mixed (effs := [12]) (V := []) ?_
  refine stage_st (fun _ h => mv4 h) ?_
  refine stage_ext [(0, pt b0_ 0), (1, pt b0_ 0), (2, pt b0_ 4), (3, g0_.many), (4, pt (sb g0_.slots) (so g0_.slots + a1.toNat * 4)), (5, pt (sb g0_.slots) (so g0_.slots + a1.toNat * 4)), (6, pt (sb g0_.slots) (so g0_.slots + a1.toNat * 4 + 1)), (7, vI x10.list), (8, pt (sb g0_.many) (so g0_.many + x10.list.toNat * 1)), (9, vI x12), (10, vI (i64 (x12 - 1))), (11, pt (sb g0_.many) (so g0_.many + x10.list.toNat * 1))] rfl ?_
  refine stage rfl rfl rfl rfl [0, 1, 3, 7, 0, 16, 48, 112, 255, 511, 1023, 2047, 4095] [0, 1, 2, 3, 4, 5, 6, 7, 8, 9, 10, 11] [12] rfl rfl rfl (qc rfl rfl (s_u (o_mv rfl)) (qc rfl rfl (s_u (o_nc rfl)) (qc rfl rfl (s_u (o_fa fa89_4 rfl)) (qc rfl rfl (s_u (o_ld 2 sc86 rfl rfl rfl)) (qc rfl rfl (s_u (o_mv rfl)) (qc rfl rfl (s_u (o_nc rfl)) (qc rfl rfl (s_u (o_fa fa91_1 rfl)) (qc rfl rfl (s_u (o_ldO 1 1 sc3 rfl rfl hx10 rfl rfl)) (qc rfl rfl (s_u (o_ixO 0 Tryz.underlying86 (fun _ => by kernel_rfl) rfl rfl rfl hx12)) (qc rfl rfl (s_u (o_ldO0 0 sc3 rfl rfl hx12 rfl rfl)) (qc rfl rfl (s_u (o_bin rfl rfl (bI_sub x12 1))) (qc rfl rfl (s_u (o_ixO 0 Tryz.underlying86 (fun _ => by kernel_rfl) rfl rfl rfl hx12)) qn)))))))))))) ?_ (fun h => absurd h (by decide))
  refine ec (eo_u rfl (s_u (o_stO0 (c' := i64 (x12 - 1)) sc3 rfl rfl rfl hx12 rfl rfl rfl)) (Le.refl _) ?_) en
  refine stage rfl rfl rfl rfl [0, 1, 3, 7, 0, 16, 48, 112, 255, 511, 1023, 2047, 4095] [] [] rfl rfl rfl qn en ?_
  intro _
  refine ex_sub (E' := []) trivial ?_
  refine x_end ?_
  obtain rfl := Option.some.inj hm13
  refine ex_st (fun _ h => st_pk 5 [2, 1, 3, 4, 0] (by decide) h) ?_
  exact x_r0 rfl (Le.refl _) ⟨_, rfl, rfl, rfl, rfl⟩

def ring_Rings_link (a0 : ring_Rings) (a1 : Int) (a2 : Int) : Option ring_Rings :=
  (gi a0.slots a1).bind fun x4 => (gi a0.slots a2).bind fun x6 => (gi (ls a0.slots a1 (⟨x4.key, a2, x4.prev, x4.next⟩ : ring_slot)) a1).bind fun x8 => (gi (ls (ls a0.slots a1 (⟨x4.key, a2, x4.prev, x4.next⟩ : ring_slot)) a1 (⟨x8.key, x8.list, a2, x8.next⟩ : ring_slot)) a1).bind fun x10 => (gi (ls (ls (ls a0.slots a1 (⟨x4.key, a2, x4.prev, x4.next⟩ : ring_slot)) a1 (⟨x8.key, x8.list, a2, x8.next⟩ : ring_slot)) a1 (⟨x10.key, x10.list, x10.prev, x6.next⟩ : ring_slot)) a1).bind fun x12 => (gi (ls (ls (ls a0.slots a1 (⟨x4.key, a2, x4.prev, x4.next⟩ : ring_slot)) a1 (⟨x8.key, x8.list, a2, x8.next⟩ : ring_slot)) a1 (⟨x10.key, x10.list, x10.prev, x6.next⟩ : ring_slot)) x12.next).bind fun x14 => (gi (ls (ls (ls (ls a0.slots a1 (⟨x4.key, a2, x4.prev, x4.next⟩ : ring_slot)) a1 (⟨x8.key, x8.list, a2, x8.next⟩ : ring_slot)) a1 (⟨x10.key, x10.list, x10.prev, x6.next⟩ : ring_slot)) x12.next (⟨x14.key, x14.list, a1, x14.next⟩ : ring_slot)) a2).bind fun x16 => (gi a0.many a2).bind fun x18 => some (⟨a0.lists, ls (ls (ls (ls (ls a0.slots a1 (⟨x4.key, a2, x4.prev, x4.next⟩ : ring_slot)) a1 (⟨x8.key, x8.list, a2, x8.next⟩ : ring_slot)) a1 (⟨x10.key, x10.list, x10.prev, x6.next⟩ : ring_slot)) x12.next (⟨x14.key, x14.list, a1, x14.next⟩ : ring_slot)) a2 (⟨x16.key, x16.list, x16.prev, a1⟩ : ring_slot), a0.free, a0.at_, ls a0.many a2 (i64 (x18 + 1))⟩ : ring_Rings)
theorem ring_Rings_link.ok {G R F} (b0_ : Nat) (a0 : ring_Rings) (g0_ : ring_Rings.G) (a1 : Int) (a2 : Int) (r : ring_Rings) (hm : ring_Rings_link a0 a1 a2 = some r) : CO Tryz.prog 78 [pt b0_ 0, vI a1, vI a2] G R (Bk b0_ 89 [vI a0.lists, g0_.slots, g0_.free, g0_.at_, g0_.many] :: OwS true 91 4 ring_slot.c g0_.slots a0.slots :: OwS true 3 1 eI g0_.free a0.free :: OwM vS vI g0_.at_ a0.at_ :: OwS true 3 1 eI g0_.many a0.many :: F)
    (Ret fun u R' L' => u = .tuple #[] ∧ R' = R ∧ L' = Bk b0_ 89 [vI r.lists, g0_.slots, g0_.free, g0_.at_, g0_.many] :: OwS true 91 4 ring_slot.c g0_.slots r.slots :: OwS true 3 1 eI g0_.free r.free :: OwM vS vI g0_.at_ r.at_ :: OwS true 3 1 eI g0_.many r.many :: F) := by
  unfold ring_Rings_link at hm
  refine co_ofN (N := 60) Tryz.func78 rfl rfl ?_
  refine c_seq ?_
  refine c_reg ?_
  refine r_u (o_mv rfl) ?_
  refine r_u (o_nc rfl) ?_
  refine r_u (o_fa fa89_1 rfl) ?_
  refine r_u (o_ld 0 sc87 rfl rfl rfl) ?_
  refine r_u (o_mv rfl) ?_
  obtain ⟨x4, hx4, hm5⟩ := bs hm
  clear hm
  refine r_u (o_ixO 1 Tryz.underlying87 (fun _ => by kernel_rfl) rfl rfl rfl hx4) ?_
  refine r_u (o_as rfl) ?_
  refine r_nil ?_
  refine x_seq ?_
  refine c_seq ?_
  refine c_reg ?_
  refine r_u (o_mv rfl) ?_
  refine r_u (o_mv rfl) ?_
  refine r_u (o_mv rfl) ?_
  refine r_u (o_mv rfl) ?_
  refine r_u (o_mv rfl) ?_
  refine r_u (o_mv rfl) ?_
  refine r_u (o_nc rfl) ?_
  refine r_u (o_fa fa89_1 rfl) ?_
  refine r_u (o_ld 0 sc87 rfl rfl rfl) ?_
  refine r_u (o_mv rfl) ?_
  obtain ⟨x6, hx6, hm7⟩ := bs hm5
  clear hm5
  refine r_u (o_ixO 1 Tryz.underlying87 (fun _ => by kernel_rfl) rfl rfl rfl hx6) ?_
  refine r_u (o_fa fa91_3 rfl) ?_
  refine r_u (o_ldO 1 3 sc3 rfl rfl hx6 rfl rfl) ?_
  refine r_u (o_nc rfl) ?_
  refine r_u (o_fa fa91_1 rfl) ?_
  refine rl_st (fun _ h => mv1 h) ?_
  refine r_u0 (o_stO (c' := (⟨x4.key, a2, x4.prev, x4.next⟩ : ring_slot)) 1 sc3 rfl rfl rfl hx4 rfl rfl rfl) ?_
  refine r_u (o_nc rfl) ?_
  refine r_u (o_fa fa91_2 rfl) ?_
  obtain ⟨x8, hx8, hm9⟩ := bs hm7
  clear hm7
  refine r_u0 (o_stO (c' := (⟨x8.key, x8.list, a2, x8.next⟩ : ring_slot)) 2 sc3 rfl rfl rfl hx8 rfl rfl rfl) ?_
  refine r_u (o_nc rfl) ?_
  refine r_u (o_fa fa91_3 rfl) ?_
  obtain ⟨x10, hx10, hm11⟩ := bs hm9
  clear hm9
  refine r_u0 (o_stO (c' := (⟨x10.key, x10.list, x10.prev, x6.next⟩ : ring_slot)) 3 sc3 rfl rfl rfl hx10 rfl rfl rfl) ?_
  refine r_nil ?_
  refine x_seq ?_
  refine c_seq ?_
  obtain ⟨x12, hx12, hm13⟩ := bs hm11
  clear hm11
  obtain ⟨x14, hx14, hm15⟩ := bs hm13
  clear hm13
  obtain ⟨x16, hx16, hm17⟩ := bs hm15
  clear hm15
  refine c_any mixed (effs := [17, 20]) (V := []) ?_
  refine stage_ext [(0, pt b0_ 0), (1, pt b0_ 0), (2, pt b0_ 1), (3, g0_.slots), (4, pt (sb g0_.slots) (so g0_.slots + a1.toNat * 4)), (5, pt (sb g0_.slots) (so g0_.slots + a1.toNat * 4)), (6, pt (sb g0_.slots) (so g0_.slots + a1.toNat * 4 + 3)), (7, vI x12.next), (8, pt b0_ 0), (9, pt b0_ 0), (10, pt b0_ 1), (11, g0_.slots), (12, vI a2), (13, vI a1), (14, vI a1), (15, pt (sb g0_.slots) (so g0_.slots + x12.next.toNat * 4)), (16, pt (sb g0_.slots) (so g0_.slots + x12.next.toNat * 4 + 2))] rfl ?_
  refine stage rfl rfl rfl rfl [0, 1, 3, 7, 0, 16, 48, 112, 0, 256, 768, 1792, 0, 0, 0, 12287, 45055, 110591, 262143, 524287, 1048575] [0, 1, 2, 3, 4, 5, 6, 7, 8, 9, 10, 11, 12, 13, 14, 15, 16] [17] rfl rfl rfl (qc rfl rfl (s_u (o_mv rfl)) (qc rfl rfl (s_u (o_nc rfl)) (qc rfl rfl (s_u (o_fa fa89_1 rfl)) (qc rfl rfl (s_u (o_ld 1 sc87 rfl rfl rfl)) (qc rfl rfl (s_u (o_mv rfl)) (qc rfl rfl (s_u (o_nc rfl)) (qc rfl rfl (s_u (o_fa fa91_3 rfl)) (qc rfl rfl (s_u (o_ldO 0 3 sc3 rfl rfl hx12 rfl rfl)) (qc rfl rfl (s_u (o_mv rfl)) (qc rfl rfl (s_u (o_nc rfl)) (qc rfl rfl (s_u (o_fa fa89_1 rfl)) (qc rfl rfl (s_u (o_ld 1 sc87 rfl rfl rfl)) (qc rfl rfl (s_u (o_mv rfl)) (qc rfl rfl (s_u (o_mv rfl)) (qc rfl rfl (s_u (o_mv rfl)) (qc rfl rfl (s_u (o_ixO 0 Tryz.underlying87 (fun _ => by kernel_rfl) rfl rfl rfl hx14)) (qc rfl rfl (s_u (o_fa fa91_2 rfl)) qn))))))))))))))))) ?_ (fun h => absurd h (by decide))
  refine ec (eo_u rfl (s_u (o_stO (c' := (⟨x14.key, x14.list, a1, x14.next⟩ : ring_slot)) 2 sc3 rfl rfl rfl hx14 rfl rfl rfl)) (Le.refl _) ?_) en
  refine stage_ext [(18, pt (sb g0_.slots) (so g0_.slots + a2.toNat * 4)), (19, pt (sb g0_.slots) (so g0_.slots + a2.toNat * 4 + 3))] rfl ?_
  refine stage rfl rfl rfl rfl [0, 1, 3, 7, 0, 16, 48, 112, 0, 256, 768, 1792, 0, 0, 0, 12287, 45055, 110591, 262143, 524287, 1048575] [12, 14, 18, 19] [20] rfl rfl rfl (qc rfl rfl (s_u (o_mv rfl)) (qc rfl rfl (s_u (o_mv rfl)) (qc rfl rfl (s_u (o_ixO 0 Tryz.underlying87 (fun _ => by kernel_rfl) rfl rfl rfl hx16)) (qc rfl rfl (s_u (o_fa fa91_3 rfl)) qn)))) ?_ (fun h => absurd h (by decide))
  refine ec (eo_u rfl (s_u (o_stO (c' := (⟨x16.key, x16.list, x16.prev, a1⟩ : ring_slot)) 3 sc3 rfl rfl rfl hx16 rfl rfl rfl)) (Le.refl _) ?_) en
  refine stage rfl rfl rfl rfl [0, 1, 3, 7, 0, 16, 48, 112, 0, 256, 768, 1792, 0, 0, 0, 12287, 45055, 110591, 262143, 524287, 1048575] [] [] rfl rfl rfl qn en ?_
  intro _
  refine ex_sub (E' := [(0, pt b0_ 0), (2, vI a2)]) ⟨rfl, rfl, trivial⟩ ?_
  refine x_seq ?_
  refine c_reg ?_
  refine r_u (o_mv rfl) ?_
  refine r_u (o_nc rfl) ?_
  refine r_u (o_fa fa89_4 rfl) ?_
  refine r_u (o_ld 1 sc86 rfl rfl rfl) ?_
  refine r_u (o_mv rfl) ?_
  obtain ⟨x18, hx18, hm19⟩ := bs hm17
  clear hm17
  refine r_u (o_ixO 4 Tryz.underlying86 (fun _ => by kernel_rfl) rfl rfl rfl hx18) ?_
  refine r_u (o_ldO0 4 sc3 rfl rfl hx18 rfl rfl) ?_
  refine r_u (o_bin rfl rfl (bI_add x18 1)) ?_
  refine r_u (o_ixO 4 Tryz.underlying86 (fun _ => by kernel_rfl) rfl rfl rfl hx18) ?_
  refine rl_st (fun _ h => mv4 h) ?_
  refine r_u0 (o_stO0 (c' := i64 (x18 + 1)) sc3 rfl rfl rfl hx18 rfl rfl rfl) ?_
  refine r_nil ?_
  refine x_end ?_
  obtain rfl := Option.some.inj hm19
  refine ex_st (fun _ h => st_pk 5 [2, 1, 3, 4, 0] (by decide) h) ?_
  exact x_r0 rfl (Le.refl _) ⟨_, rfl, rfl, rfl, rfl⟩

def ring_Rings_Front (a0 : ring_Rings) (a1 : Int) (a2 : Str) : Option (Bool × ring_Rings) :=
  if (!(ring_Rings_is a0 a1) || decide (64 < (a2.length : Int))) then some (false, a0) else if (mget a0.at_ a2).isSome then (ring_Rings_cut a0 ((mget a0.at_ a2).getD (0 : Int))).bind fun r8 => (ring_Rings_link r8 ((mget a0.at_ a2).getD (0 : Int)) a1).bind fun r10 => some (true, r10) else if ((a0.free.length : Int) == 0) then some (false, a0) else (gi a0.free (i64 ((a0.free.length : Int) - 1))).bind fun x14 => (sl a0.free 0 (i64 ((a0.free.length : Int) - 1))).bind fun l16 => (gi a0.slots x14).bind fun x18 => (ring_Rings_link (⟨a0.lists, ls a0.slots x14 (⟨a2, x18.list, x18.prev, x18.next⟩ : ring_slot), l16, mput a0.at_ a2 x14, a0.many⟩ : ring_Rings) x14 a1).bind fun r20 => some (true, r20)
theorem ring_Rings_Front.ok {G R F} (b0_ : Nat) (a0 : ring_Rings) (g0_ : ring_Rings.G) (a1 : Int) (a2 : Str) (r : Bool × ring_Rings) (hm : ring_Rings_Front a0 a1 a2 = some r) : CO Tryz.prog 49 [pt b0_ 0, vI a1, vS a2] G R (Bk b0_ 89 [vI a0.lists, g0_.slots, g0_.free, g0_.at_, g0_.many] :: OwS true 91 4 ring_slot.c g0_.slots a0.slots :: OwS true 3 1 eI g0_.free a0.free :: OwM vS vI g0_.at_ a0.at_ :: OwS true 3 1 eI g0_.many a0.many :: F)
    (Ret fun u R' L' => ∃ (q0 : ring_Rings.G), u = vB r.1 ∧ R' = R ∧ L' = Bk b0_ 89 [vI r.2.lists, q0.slots, q0.free, q0.at_, q0.many] :: OwS true 91 4 ring_slot.c q0.slots r.2.slots :: OwS true 3 1 eI q0.free r.2.free :: OwM vS vI q0.at_ r.2.at_ :: OwS true 3 1 eI q0.many r.2.many :: F) := by
  unfold ring_Rings_Front at hm
  refine co_ofN (N := 80) Tryz.func49 rfl rfl ?_
  refine c_seq ?_
  refine c_reg ?_
  refine r_u (o_as rfl) ?_
  refine r_nil ?_
  refine x_seq ?_
  refine c_seq ?_
  refine c_seq ?_
  refine c_reg ?_
  refine r_u (o_mv rfl) ?_
  refine r_u (o_mv rfl) ?_
  refine r_c (s_w (o_call ca76 rfl (ring_Rings_is.ok b0_ a0 g0_ a1 _ rfl))) ?_
  refine r_u (o_not rfl) ?_
  refine r_u (o_mv rfl) ?_
  refine r_s (s_gf rfl rfl fun g => o_mv rfl) ?_
  refine r_s (s_gf rfl rfl fun g => o_lenS Tryz.underlying9 (evg rfl g)) ?_
  refine r_s (s_gf rfl rfl fun g => o_bin (evg rfl g) rfl (bI_gt (a2.length : Int) 64)) ?_
  refine r_u (o_or rfl rfl) ?_
  refine r_nil ?_
  refine x_seq ?_
  refine c_if (b := (!(ring_Rings_is a0 a1) || decide (64 < (a2.length : Int)))) rfl (fun h4 => ?_) fun h4 => ?_
  · have hm5 := ift hm h4
    clear hm
    refine c_seq ?_
    refine c_reg ?_
    refine r_u (o_as rfl) ?_
    refine r_nil ?_
    refine x_seq ?_
    refine c_ret ?_
    obtain rfl := Option.some.inj hm5
    exact x_r1 rfl (rv_t rfl) (Le.refl _) ⟨_, rfl, g0_, rfl, rfl, rfl⟩
  · have hm5 := iff_ hm h4
    clear hm
    refine c_skip ?_
    refine x_seq ?_
    refine c_seq ?_
    refine c_seq ?_
    refine c_reg ?_
    refine r_u (o_mv rfl) ?_
    refine r_u (o_nc rfl) ?_
    refine r_u (o_fa fa89_3 rfl) ?_
    refine r_u (o_ld 0 sc85 rfl rfl rfl) ?_
    refine r_u (o_mv rfl) ?_
    refine r_u (o_lk (kv := vS) (vv := vI) (key := a2) (z0 := (0 : Int)) 3 Tryz.underlying85 (kok_S Tryz.underlying9) (fun _ => by kernel_rfl) rfl rfl rfl) ?_
    refine r_u (o_mv rfl) ?_
    refine r_u (o_ext rfl rfl) ?_
    refine r_u (o_ext rfl rfl) ?_
    refine r_u (o_as rfl) ?_
    refine r_u (o_as rfl) ?_
    refine r_nil ?_
    refine x_seq ?_
    refine c_seq ?_
    refine c_reg ?_
    refine r_u (o_mv rfl) ?_
    refine r_nil ?_
    refine x_seq ?_
    refine c_if (b := (mget a0.at_ a2).isSome) rfl (fun h6 => ?_) fun h6 => ?_
    · have hm7 := ift hm5 h6
      clear hm5
      refine c_seq ?_
      refine c_reg ?_
      refine r_u (o_mv rfl) ?_
      refine r_u (o_mv rfl) ?_
      obtain ⟨r8, hr8, hm9⟩ := bs hm7
      clear hm7
      refine r_c (s_w (o_call ca77 rfl (ring_Rings_cut.ok b0_ a0 g0_ ((mget a0.at_ a2).getD (0 : Int)) r8 hr8))) ?_
      refine r_nil ?_
      refine x_seq ?_
      refine c_seq ?_
      refine c_reg ?_
      refine r_u (o_mv rfl) ?_
      refine r_u (o_mv rfl) ?_
      refine r_u (o_mv rfl) ?_
      obtain ⟨r10, hr10, hm11⟩ := bs hm9
      clear hm9
      refine r_c (s_w (o_call ca78 rfl (ring_Rings_link.ok b0_ r8 g0_ ((mget a0.at_ a2).getD (0 : Int)) a1 r10 hr10))) ?_
      refine r_nil ?_
      refine x_seq ?_
      refine c_seq ?_
      refine c_reg ?_
      refine r_u (o_as rfl) ?_
      refine r_nil ?_
      refine x_seq ?_
      refine c_ret ?_
      obtain rfl := Option.some.inj hm11
      exact x_r1 rfl (rv_t rfl) (Le.refl _) ⟨_, rfl, g0_, rfl, rfl, rfl⟩
    · have hm7 := iff_ hm5 h6
      clear hm5
      refine c_skip ?_
      refine x_seq ?_
      refine c_seq ?_
      refine c_reg ?_
      refine r_u (o_mv rfl) ?_
      refine r_u (o_nc rfl) ?_
      refine r_u (o_fa fa89_2 rfl) ?_
      refine r_u (o_ld 0 sc86 rfl rfl rfl) ?_
      refine r_u (o_lenO 2 Tryz.underlying86 rfl rfl) ?_
      refine r_u (o_as rfl) ?_
      refine r_nil ?_
      refine x_seq ?_
      refine c_seq ?_
      refine c_seq ?_
      refine c_reg ?_
      refine r_u (o_mv rfl) ?_
      refine r_u (o_bin rfl rfl (bI_eq (a0.free.length : Int) 0)) ?_
      refine r_nil ?_
      refine x_seq ?_
      refine c_if (b := ((a0.free.length : Int) == 0)) rfl (fun h12 => ?_) fun h12 => ?_
      · have hm13 := ift hm7 h12
        clear hm7
        refine c_seq ?_
        refine c_reg ?_
        refine r_u (o_as rfl) ?_
        refine r_nil ?_
        refine x_seq ?_
        refine c_ret ?_
        obtain rfl := Option.some.inj hm13
        exact x_r1 rfl (rv_t rfl) (Le.refl _) ⟨_, rfl, g0_, rfl, rfl, rfl⟩
      · have hm13 := iff_ hm7 h12
        clear hm7
        refine c_skip ?_
        refine x_seq ?_
        refine c_seq ?_
        refine c_reg ?_
        refine r_u (o_mv rfl) ?_
        refine r_u (o_nc rfl) ?_
        refine r_u (o_fa fa89_2 rfl) ?_
        refine r_u (o_ld 0 sc86 rfl rfl rfl) ?_
        refine r_u (o_mv rfl) ?_
        refine r_u (o_bin rfl rfl (bI_sub (a0.free.length : Int) 1)) ?_
        obtain ⟨x14, hx14, hm15⟩ := bs hm13
        clear hm13
        refine r_u (o_ixO 2 Tryz.underlying86 (fun _ => by kernel_rfl) rfl rfl rfl hx14) ?_
        refine r_u (o_ldO0 2 sc3 rfl rfl hx14 rfl rfl) ?_
        refine r_u (o_as rfl) ?_
        refine r_nil ?_
        refine x_seq ?_
        refine c_seq ?_
        refine c_reg ?_
        refine r_u (o_mv rfl) ?_
        refine r_u (o_mv rfl) ?_
        refine r_u (o_nc rfl) ?_
        refine r_u (o_fa fa89_2 rfl) ?_
        refine r_u (o_ld 0 sc86 rfl rfl rfl) ?_
        refine r_u (o_mv rfl) ?_
        refine r_u (o_bin rfl rfl (bI_sub (a0.free.length : Int) 1)) ?_
        obtain ⟨l16, hl16, hm17⟩ := bs hm15
        clear hm15
        refine rl_st (fun _ h => mv2 h) ?_
        refine r_u (o_slO Tryz.underlying86 (fun _ => by kernel_rfl) rfl rfl rfl hl16) ?_
        refine r_u (o_nc rfl) ?_
        refine r_u (o_fa fa89_2 rfl) ?_
        refine rl_st (fun _ h => mv1 h) ?_
        refine r_u0 (ou_if (one_o 1 rfl) fun ho0 => o_st sc86 rfl rfl rfl ho0 rfl rfl) ?_
        refine r_nil ?_
        refine x_seq ?_
        refine c_seq ?_
        refine c_reg ?_
        refine r_u (o_mv rfl) ?_
        refine r_u (o_nc rfl) ?_
        refine r_u (o_fa fa89_1 rfl) ?_
        refine r_u (o_ld 0 sc87 rfl rfl rfl) ?_
        refine r_u (o_mv rfl) ?_
        refine r_u (o_mv rfl) ?_
        obtain ⟨x18, hx18, hm19⟩ := bs hm17
        clear hm17
        refine r_u (o_ixO 2 Tryz.underlying87 (fun _ => by kernel_rfl) rfl rfl rfl hx18) ?_
        refine r_u (o_fa fa91_0 rfl) ?_
        refine rl_st (fun _ h => mv2 h) ?_
        refine r_u0 (o_stO0 (c' := (⟨a2, x18.list, x18.prev, x18.next⟩ : ring_slot)) sc9 rfl rfl rfl hx18 rfl rfl rfl) ?_
        refine r_nil ?_
        refine x_seq ?_
        refine c_seq ?_
        refine c_reg ?_
        refine r_u (o_mv rfl) ?_
        refine r_u (o_nc rfl) ?_
        refine r_u (o_fa fa89_3 rfl) ?_
        refine r_u (o_ld 1 sc85 rfl rfl rfl) ?_
        refine r_u (o_mv rfl) ?_
        refine r_u (o_mv rfl) ?_
        refine rl_st (fun _ h => mv3 h) ?_
        refine r_u0 (o_mu (kv := vS) (vv := vI) (key := a2) (val := x14) Tryz.underlying85 (kok_S Tryz.underlying9) rfl rfl rfl rfl) ?_
        refine r_nil ?_
        refine x_seq ?_
        refine c_seq ?_
        refine c_reg ?_
        refine r_u (o_mv rfl) ?_
        refine r_u (o_mv rfl) ?_
        refine r_u (o_mv rfl) ?_
        obtain ⟨r20, hr20, hm21⟩ := bs hm19
        clear hm19
        refine rl_st (fun _ h => mv4 (mv3 (mv4 (mv1 (mv4 h))))) ?_
        refine r_c (s_w (o_call ca78 rfl (ring_Rings_link.ok b0_ (⟨a0.lists, ls a0.slots x14 (⟨a2, x18.list, x18.prev, x18.next⟩ : ring_slot), l16, mput a0.at_ a2 x14, a0.many⟩ : ring_Rings) (⟨g0_.slots, (sh g0_.free (i64 ((a0.free.length : Int) - 1)).toNat), g0_.at_, g0_.many⟩ : ring_Rings.G) x14 a1 r20 hr20))) ?_
        refine r_nil ?_
        refine x_seq ?_
        refine c_seq ?_
        refine c_reg ?_
        refine r_u (o_as rfl) ?_
        refine r_nil ?_
        refine x_seq ?_
        refine c_ret ?_
        obtain rfl := Option.some.inj hm21
        exact x_r1 rfl (rv_t rfl) (Le.refl _) ⟨_, rfl, (⟨g0_.slots, (sh g0_.free (i64 ((a0.free.length : Int) - 1)).toNat), g0_.at_, g0_.many⟩ : ring_Rings.G), rfl, rfl, rfl⟩

def ring_Rings_Len (a0 : ring_Rings) (a1 : Int) : Option Int :=
  if !(ring_Rings_is a0 a1) then some 0 else (gi a0.many a1).bind fun x6 => some x6
theorem ring_Rings_Len.ok {G R F} (b0_ : Nat) (a0 : ring_Rings) (g0_ : ring_Rings.G) (a1 : Int) (r : Int) (hm : ring_Rings_Len a0 a1 = some r) : CO Tryz.prog 50 [pt b0_ 0, vI a1] G R (Bk b0_ 89 [vI a0.lists, g0_.slots, g0_.free, g0_.at_, g0_.many] :: OwS true 91 4 ring_slot.c g0_.slots a0.slots :: OwS true 3 1 eI g0_.free a0.free :: OwM vS vI g0_.at_ a0.at_ :: OwS true 3 1 eI g0_.many a0.many :: F)
    (Ret fun u R' L' => u = vI r ∧ R' = R ∧ L' = Bk b0_ 89 [vI a0.lists, g0_.slots, g0_.free, g0_.at_, g0_.many] :: OwS true 91 4 ring_slot.c g0_.slots a0.slots :: OwS true 3 1 eI g0_.free a0.free :: OwM vS vI g0_.at_ a0.at_ :: OwS true 3 1 eI g0_.many a0.many :: F) := by
  unfold ring_Rings_Len at hm
  refine co_ofN (N := 16) Tryz.func50 rfl rfl ?_
  refine c_seq ?_
  refine c_reg ?_
  refine r_u (o_as rfl) ?_
  refine r_nil ?_
  refine x_seq ?_
  refine c_seq ?_
  refine c_seq ?_
  refine c_reg ?_
  refine r_u (o_mv rfl) ?_
  refine r_u (o_mv rfl) ?_
  refine r_c (s_w (o_call ca76 rfl (ring_Rings_is.ok b0_ a0 g0_ a1 _ rfl))) ?_
  refine r_u (o_not rfl) ?_
  refine r_nil ?_
  refine x_seq ?_
  refine c_if (b := !(ring_Rings_is a0 a1)) rfl (fun h4 => ?_) fun h4 => ?_
  · have hm5 := ift hm h4
    clear hm
    refine c_seq ?_
    refine c_reg ?_
    refine r_u (o_as rfl) ?_
    refine r_nil ?_
    refine x_seq ?_
    refine c_ret ?_
    obtain rfl := Option.some.inj hm5
    exact x_r1 rfl (rv_t rfl) (Le.refl _) ⟨_, rfl, rfl, rfl, rfl⟩
  · have hm5 := iff_ hm h4
    clear hm
    refine c_skip ?_
    refine x_seq ?_
    refine c_seq ?_
    refine c_reg ?_
    refine r_u (o_mv rfl) ?_
    refine r_u (o_nc rfl) ?_
    refine r_u (o_fa fa89_4 rfl) ?_
    refine r_u (o_ld 0 sc86 rfl rfl rfl) ?_
    refine r_u (o_mv rfl) ?_
    obtain ⟨x6, hx6, hm7⟩ := bs hm5
    clear hm5
    refine r_u (o_ixO 4 Tryz.underlying86 (fun _ => by kernel_rfl) rfl rfl rfl hx6) ?_
    refine r_u (o_ldO0 4 sc3 rfl rfl hx6 rfl rfl) ?_
    refine r_u (o_as rfl) ?_
    refine r_nil ?_
    refine x_seq ?_
    refine c_ret ?_
    obtain rfl := Option.some.inj hm7
    exact x_r1 rfl (rv_t rfl) (Le.refl _) ⟨_, rfl, rfl, rfl, rfl⟩

def tiny_Parts (a0 : Int) : api_Parts :=
  (⟨(if 1 < (i64 (a0.tdiv 8)) then i64 (a0.tdiv 8) else 1), i64 ((i64 ((i64 (a0 - (if 1 < (i64 (a0.tdiv 8)) then i64 (a0.tdiv 8) else 1))) * 4)).tdiv 5)⟩ : api_Parts)
theorem tiny_Parts.ok {G R F} (a0 : Int) (r : api_Parts) (hm : tiny_Parts a0 = r) : CO Tryz.prog 51 [vI a0] G R (F)
    (Ret fun u R' L' => u = .agg (api_Parts.c r).toArray ∧ R' = R ∧ L' = F) := by
  unfold tiny_Parts at hm
  refine co_ofN (N := 14) Tryz.func51 rfl rfl ?_
  refine c_seq ?_
  refine c_reg ?_
  refine r_new (o_al ze94) fun b0 => ?_
  refine r_nil ?_
  refine x_seq ?_
  refine c_seq ?_
  refine c_reg ?_
  refine r_u (o_mv rfl) ?_
  refine r_u (o_bin rfl rfl (bI_quo a0 8 (by decide))) ?_
  refine r_u (o_maxI rfl rfl) ?_
  refine r_u (o_as rfl) ?_
  refine r_nil ?_
  refine x_seq ?_
  refine c_seq ?_
  refine c_reg ?_
  refine r_u (o_mv rfl) ?_
  refine r_u (o_mv rfl) ?_
  refine r_u (o_mv rfl) ?_
  refine r_u (o_bin rfl rfl (bI_sub a0 (if 1 < (i64 (a0.tdiv 8)) then i64 (a0.tdiv 8) else 1))) ?_
  refine r_u (o_bin rfl rfl (bI_mul (i64 (a0 - (if 1 < (i64 (a0.tdiv 8)) then i64 (a0.tdiv 8) else 1))) 4)) ?_
  refine r_u (o_bin rfl rfl (bI_quo (i64 ((i64 (a0 - (if 1 < (i64 (a0.tdiv 8)) then i64 (a0.tdiv 8) else 1))) * 4)) 5 (by decide))) ?_
  refine r_u (o_bld [vI (if 1 < (i64 (a0.tdiv 8)) then i64 (a0.tdiv 8) else 1), vI (i64 ((i64 ((i64 (a0 - (if 1 < (i64 (a0.tdiv 8)) then i64 (a0.tdiv 8) else 1))) * 4)).tdiv 5))] rfl (fun _ => by kernel_rfl)) ?_
  refine r_u0 (o_stn ag94 rfl rfl rfl rfl rfl rfl rfl) ?_
  refine r_nil ?_
  refine x_seq ?_
  refine c_ret ?_
  subst hm
  exact x_d1 rfl (rv_n 0 [vI (if 1 < (i64 (a0.tdiv 8)) then i64 (a0.tdiv 8) else 1), vI (i64 ((i64 ((i64 (a0 - (if 1 < (i64 (a0.tdiv 8)) then i64 (a0.tdiv 8) else 1))) * 4)).tdiv 5))] ag94 rfl rfl rfl rfl) (fun _ h => st_pk 1 [] (by decide) h) (Le.refl _) ⟨_, rfl, rfl, rfl, rfl⟩

def ring_Rings_Back (a0 : ring_Rings) (a1 : Int) : Option (Str × Bool) :=
  (ring_Rings_Len a0 a1).bind fun r4 => if (r4 == 0) then some ([], false) else (gi a0.slots a1).bind fun x8 => (gi a0.slots x8.prev).bind fun x10 => some (x10.key, true)
theorem ring_Rings_Back.ok {G R F} (b0_ : Nat) (a0 : ring_Rings) (g0_ : ring_Rings.G) (a1 : Int) (r : Str × Bool) (hm : ring_Rings_Back a0 a1 = some r) : CO Tryz.prog 52 [pt b0_ 0, vI a1] G R (Bk b0_ 89 [vI a0.lists, g0_.slots, g0_.free, g0_.at_, g0_.many] :: OwS true 91 4 ring_slot.c g0_.slots a0.slots :: OwS true 3 1 eI g0_.free a0.free :: OwM vS vI g0_.at_ a0.at_ :: OwS true 3 1 eI g0_.many a0.many :: F)
    (Ret fun u R' L' => u = .tuple #[vS r.1, vB r.2] ∧ R' = R ∧ L' = Bk b0_ 89 [vI a0.lists, g0_.slots, g0_.free, g0_.at_, g0_.many] :: OwS true 91 4 ring_slot.c g0_.slots a0.slots :: OwS true 3 1 eI g0_.free a0.free :: OwM vS vI g0_.at_ a0.at_ :: OwS true 3 1 eI g0_.many a0.many :: F) := by
  unfold ring_Rings_Back at hm
  refine co_ofN (N := 25) Tryz.func52 rfl rfl ?_
  refine c_seq ?_
  refine c_reg ?_
  refine r_u (o_as rfl) ?_
  refine r_u (o_as rfl) ?_
  refine r_nil ?_
  refine x_seq ?_
  refine c_seq ?_
  refine c_seq ?_
  refine c_reg ?_
  refine r_u (o_mv rfl) ?_
  refine r_u (o_mv rfl) ?_
  obtain ⟨r4, hr4, hm5⟩ := bs hm
  clear hm
  refine r_c (s_w (o_call ca50 rfl (ring_Rings_Len.ok b0_ a0 g0_ a1 r4 hr4))) ?_
  refine r_u (o_bin rfl rfl (bI_eq r4 0)) ?_
  refine r_nil ?_
  refine x_seq ?_
  refine c_if (b := (r4 == 0)) rfl (fun h6 => ?_) fun h6 => ?_
  · have hm7 := ift hm5 h6
    clear hm5
    refine c_seq ?_
    refine c_reg ?_
    refine r_u (o_as rfl) ?_
    refine r_u (o_as rfl) ?_
    refine r_nil ?_
    refine x_seq ?_
    refine c_ret ?_
    obtain rfl := Option.some.inj hm7
    exact x_r2 rfl (rv_t rfl) (rv_t rfl) (Le.refl _) ⟨_, rfl, rfl, rfl, rfl⟩
  · have hm7 := iff_ hm5 h6
    clear hm5
    refine c_skip ?_
    refine x_seq ?_
    refine c_seq ?_
    obtain ⟨x8, hx8, hm9⟩ := bs hm7
    clear hm7
    obtain ⟨x10, hx10, hm11⟩ := bs hm9
    clear hm9
    refine c_any mixed (effs := []) (V := []) ?_
    refine stage_ext [(0, pt b0_ 0), (1, pt b0_ 0), (2, pt b0_ 1), (3, g0_.slots), (4, pt b0_ 0), (5, pt b0_ 0), (6, pt b0_ 1), (7, g0_.slots), (8, vI a1), (9, pt (sb g0_.slots) (so g0_.slots + a1.toNat * 4)), (10, pt (sb g0_.slots) (so g0_.slots + a1.toNat * 4 + 2)), (11, vI x8.prev), (12, pt (sb g0_.slots) (so g0_.slots + x8.prev.toNat * 4)), (13, pt (sb g0_.slots) (so g0_.slots + x8.prev.toNat * 4)), (14, vS x10.key), (15, vS x10.key), (16, vB true)] rfl ?_
    refine stage rfl rfl rfl rfl [0, 1, 3, 7, 0, 16, 48, 112, 0, 496, 1008, 2032, 4095, 8191, 16383, 32767, 65535] [0, 1, 2, 3, 4, 5, 6, 7, 8, 9, 10, 11, 12, 13, 14, 15, 16] [] rfl rfl rfl (qc rfl rfl (s_u (o_mv rfl)) (qc rfl rfl (s_u (o_nc rfl)) (qc rfl rfl (s_u (o_fa fa89_1 rfl)) (qc rfl rfl (s_u (o_ld 0 sc87 rfl rfl rfl)) (qc rfl rfl (s_u (o_mv rfl)) (qc rfl rfl (s_u (o_nc rfl)) (qc rfl rfl (s_u (o_fa fa89_1 rfl)) (qc rfl rfl (s_u (o_ld 0 sc87 rfl rfl rfl)) (qc rfl rfl (s_u (o_mv rfl)) (qc rfl rfl (s_u (o_ixO 1 Tryz.underlying87 (fun _ => by kernel_rfl) rfl rfl rfl hx8)) (qc rfl rfl (s_u (o_fa fa91_2 rfl)) (qc rfl rfl (s_u (o_ldO 1 2 sc3 rfl rfl hx8 rfl rfl)) (qc rfl rfl (s_u (o_ixO 1 Tryz.underlying87 (fun _ => by kernel_rfl) rfl rfl rfl hx10)) (qc rfl rfl (s_u (o_fa fa91_0 rfl)) (qc rfl rfl (s_u (o_ldO0 1 sc9 rfl rfl hx10 rfl rfl)) (qc rfl rfl (s_u (o_as rfl)) (qc rfl rfl (s_u (o_as rfl)) qn))))))))))))))))) en ?_
    intro _
    refine ex_sub (E' := [(4, vS x10.key), (5, vB true)]) ⟨rfl, rfl, trivial⟩ ?_
    refine x_seq ?_
    refine c_ret ?_
    obtain rfl := Option.some.inj hm11
    exact x_r2 rfl (rv_t rfl) (rv_t rfl) (Le.refl _) ⟨_, rfl, rfl, rfl, rfl⟩

def tiny_Tiny_Touch (a0 : tiny_Tiny) (a1 : Str) : Option (Bool × tiny_Tiny) :=
  (tiny_Tiny_Has a0 a1).bind fun r6 => if !r6 then some (false, a0) else om a0.s (none) fun x10 => (sketch_Sketch_Add x10 a1).bind fun r16 => om a0.r (none) fun x18 => (ring_Rings_In x18 a1).bind fun r26 => if (r26.1 == 0) then (ring_Rings_Front x18 0 a1).bind fun r30 => some (r30.1, (⟨a0.most, (some r16), (some r30.2)⟩ : tiny_Tiny)) else (ring_Rings_Front x18 2 a1).bind fun r37 => (ring_Rings_Len r37.2 2).bind fun r44 => if decide (((tiny_Parts a0.most).Protected) < r44) then (ring_Rings_Back r37.2 2).bind fun r48 => (ring_Rings_Front r37.2 1 r48.1).bind fun r50 => some (true, (⟨a0.most, (some r16), (some r50.2)⟩ : tiny_Tiny)) else some (true, (⟨a0.most, (some r16), (some r37.2)⟩ : tiny_Tiny))
theorem tiny_Tiny_Touch.ok {G R F} (b0_ : Nat) (a0 : tiny_Tiny) (g0_ : tiny_Tiny.G) (a1 : Str) (r : Bool × tiny_Tiny) (hm : tiny_Tiny_Touch a0 a1 = some r) : CO Tryz.prog 23 [pt b0_ 0, vS a1] G R (Bk b0_ 57 [vI a0.most, g0_.s.1, g0_.r.1] :: rO (sketch_Sketch.op g0_.s.2) g0_.s.1 a0.s :: rO (ring_Rings.op g0_.r.2) g0_.r.1 a0.r :: F)
    (Ret fun u R' L' => ∃ (q0 : tiny_Tiny.G), u = vB r.1 ∧ R' = R ∧ L' = Bk b0_ 57 [vI r.2.most, q0.s.1, q0.r.1] :: rO (sketch_Sketch.op q0.s.2) q0.s.1 r.2.s :: rO (ring_Rings.op q0.r.2) q0.r.1 r.2.r :: F) := by
  obtain ⟨⟨pv1, g2⟩, ⟨pv4, g5⟩⟩ := g0_
  unfold tiny_Tiny_Touch at hm
  refine co_ofN (N := 68) Tryz.func23 rfl rfl ?_
  refine c_seq ?_
  refine c_reg ?_
  refine r_u (o_as rfl) ?_
  refine r_nil ?_
  refine x_seq ?_
  refine c_seq ?_
  refine c_seq ?_
  refine c_reg ?_
  refine r_u (o_mv rfl) ?_
  refine r_u (o_mv rfl) ?_
  obtain ⟨r6, hr6, hm7⟩ := bs hm
  clear hm
  refine r_c (s_w (o_call ca10 rfl (tiny_Tiny_Has.ok b0_ a0 (⟨(pv1, g2), (pv4, g5)⟩ : tiny_Tiny.G) a1 r6 hr6))) ?_
  refine r_u (o_not rfl) ?_
  refine r_nil ?_
  refine x_seq ?_
  refine c_if (b := !r6) rfl (fun h8 => ?_) fun h8 => ?_
  · have hm9 := ift hm7 h8
    clear hm7
    refine c_seq ?_
    refine c_reg ?_
    refine r_u (o_as rfl) ?_
    refine r_nil ?_
    refine x_seq ?_
    refine c_ret ?_
    obtain rfl := Option.some.inj hm9
    exact x_r1 rfl (rv_t rfl) (Le.refl _) ⟨_, rfl, (⟨(pv1, g2), (pv4, g5)⟩ : tiny_Tiny.G), rfl, rfl, rfl⟩
  · have hm9 := iff_ hm7 h8
    clear hm7
    refine c_skip ?_
    refine x_seq ?_
    refine c_seq ?_
    refine cd_st (fun _ h => mv1 h) ?_
    refine cd_opt (fun ho12 => ?_) (fun x10 b11 ho12 => ?_)
    · rintro rfl
      have hm13 := om_n hm9 ho12
      clear hm9
      cases hm13
    · rintro rfl
      have hm13 := om_s hm9 ho12
      clear hm9
      refine cd_st (fun _ h => st_star_o h) ?_
      refine c_reg ?_
      refine r_u (o_mv rfl) ?_
      refine r_u (o_nc rfl) ?_
      refine r_u (o_fa fa57_1 rfl) ?_
      refine r_u (o_ld 3 sc49 rfl rfl rfl) ?_
      refine r_u (o_mv rfl) ?_
      obtain ⟨r16, hr16, hm17⟩ := bs hm13
      clear hm13
      refine r_c (s_w (o_call ca48 rfl (sketch_Sketch_Add.ok b11 x10 g2 a1 r16 hr16))) ?_
      refine r_nil ?_
      refine x_seq ?_
      refine c_seq ?_
      refine cd_st (fun _ h => mv4 h) ?_
      refine cd_opt (fun ho20 => ?_) (fun x18 b19 ho20 => ?_)
      · rintro rfl
        have hm21 := om_n hm17 ho20
        clear hm17
        cases hm21
      · rintro rfl
        have hm21 := om_s hm17 ho20
        clear hm17
        refine cd_st (fun _ h => st_star_o h) ?_
        refine c_reg ?_
        refine r_u (o_mv rfl) ?_
        refine r_u (o_nc rfl) ?_
        refine r_u (o_fa fa57_2 rfl) ?_
        refine r_u (o_ld 8 sc53 rfl rfl rfl) ?_
        refine r_u (o_mv rfl) ?_
        obtain ⟨r26, hr26, hm27⟩ := bs hm21
        clear hm21
        refine r_c (s_w (o_call ca37 rfl (ring_Rings_In.ok b19 x18 g5 a1 r26 hr26))) ?_
        refine r_u (o_mv rfl) ?_
        refine r_u (o_ext rfl rfl) ?_
        refine r_u (o_ext rfl rfl) ?_
        refine r_u (o_as rfl) ?_
        refine r_u (o_as rfl) ?_
        refine r_nil ?_
        refine x_seq ?_
        refine c_seq ?_
        refine c_seq ?_
        refine c_reg ?_
        refine r_u (o_mv rfl) ?_
        refine r_u (o_bin rfl rfl (bI_eq r26.1 0)) ?_
        refine r_nil ?_
        refine x_seq ?_
        refine c_if (b := (r26.1 == 0)) rfl (fun h28 => ?_) fun h28 => ?_
        · have hm29 := ift hm27 h28
          clear hm27
          refine c_seq ?_
          refine c_reg ?_
          refine r_u (o_mv rfl) ?_
          refine r_u (o_nc rfl) ?_
          refine r_u (o_fa fa57_2 rfl) ?_
          refine r_u (o_ld 8 sc53 rfl rfl rfl) ?_
          refine r_u (o_mv rfl) ?_
          obtain ⟨r30, hr30, hm36⟩ := bs hm29
          clear hm29
          refine r_sw (s_w (o_call ca49 rfl (ring_Rings_Front.ok b19 x18 g5 0 a1 r30 hr30))) ?_
          rintro _ R _ _ ⟨g31, rfl, rfl, rfl⟩
          refine r_u (o_as rfl) ?_
          refine r_nil ?_
          refine x_seq ?_
          refine c_ret ?_
          refine ex_st (fun _ h => mv7 (mv7 (mv7 h))) ?_
          refine ex_st (fun _ h => st_some (f := sketch_Sketch.op g2) (a := r16) (st_star_f (A := sketch_Sketch.fl b11 r16 g2) h)) ?_
          refine ex_st (fun _ h => mv5 (mv5 (mv5 (mv5 (mv5 h))))) ?_
          refine ex_st (fun _ h => st_some (f := ring_Rings.op g31) (a := r30.2) (st_star_f (A := ring_Rings.fl b19 r30.2 g31) h)) ?_
          obtain rfl := Option.some.inj hm36
          refine ex_st (fun _ h => st_pk 3 [2, 1, 0] (by decide) h) ?_
          exact x_r1 rfl (rv_t rfl) (Le.refl _) ⟨_, rfl, (⟨(pt b11 0, g2), (pt b19 0, g31)⟩ : tiny_Tiny.G), rfl, rfl, rfl⟩
        · have hm29 := iff_ hm27 h28
          clear hm27
          refine c_skip ?_
          refine x_seq ?_
          refine c_seq ?_
          refine c_reg ?_
          refine r_u (o_mv rfl) ?_
          refine r_u (o_nc rfl) ?_
          refine r_u (o_fa fa57_2 rfl) ?_
          refine r_u (o_ld 8 sc53 rfl rfl rfl) ?_
          refine r_u (o_mv rfl) ?_
          obtain ⟨r37, hr37, hm43⟩ := bs hm29
          clear hm29
          refine r_sw (s_w (o_call ca49 rfl (ring_Rings_Front.ok b19 x18 g5 2 a1 r37 hr37))) ?_
          rintro _ R _ _ ⟨g38, rfl, rfl, rfl⟩
          refine r_nil ?_
          refine x_seq ?_
          refine c_seq ?_
          refine c_seq ?_
          obtain ⟨r44, hr44, hm45⟩ := bs hm43
          clear hm43
          refine c_any mixed (effs := []) (V := []) ?_
          refine stage_ext [(0, pt b0_ 0), (1, pt b0_ 0), (2, pt b0_ 2), (3, pt b19 0), (4, vI r44), (5, pt b0_ 0), (6, pt b0_ 0), (7, pt b0_ 0), (8, vI a0.most), (9, .agg (api_Parts.c (tiny_Parts a0.most)).toArray), (10, vI ((tiny_Parts a0.most).Protected)), (11, vB (decide (((tiny_Parts a0.most).Protected) < r44)))] rfl ?_
          refine stage rfl rfl rfl rfl [0, 1, 3, 7, 15, 0, 32, 96, 224, 511, 1023, 2047] [0, 1, 2, 3, 4, 5, 6, 7, 8, 9, 10, 11] [] rfl rfl rfl (qc rfl rfl (s_u (o_mv rfl)) (qc rfl rfl (s_u (o_nc rfl)) (qc rfl rfl (s_u (o_fa fa57_2 rfl)) (qc rfl rfl (s_u (o_ld 8 sc53 rfl rfl rfl)) (qc rfl rfl (s_u (o_callqP ca50 rfl (ring_Rings_Len.ok b19 r37.2 g38 2 r44 hr44) (fun _ h => st_pk 9 [0, 1, 2, 3, 4, 5, 6, 7, 8] (by decide) h) (fun _ h => st_pk 9 [0, 1, 2, 3, 4, 5, 6, 7, 8] (by decide) h))) (qc rfl rfl (s_u (o_mv rfl)) (qc rfl rfl (s_u (o_nc rfl)) (qc rfl rfl (s_u (o_fa fa57_0 rfl)) (qc rfl rfl (s_u (o_ld 8 sc3 rfl rfl rfl)) (qc rfl rfl (s_u (o_callq ca51 rfl (tiny_Parts.ok a0.most _ rfl))) (qc rfl rfl (s_u (o_fd (v := vI ((tiny_Parts a0.most).Protected)) rfl (fun _ => by kernel_rfl))) (qc rfl rfl (s_u (o_bin rfl rfl (bI_gt r44 ((tiny_Parts a0.most).Protected)))) qn)))))))))))) en ?_
          intro _
          refine ex_sub (E' := [(0, pt b0_ 0), (53, vB (decide (((tiny_Parts a0.most).Protected) < r44)))]) ⟨rfl, rfl, trivial⟩ ?_
          refine x_seq ?_
          refine c_if (b := decide (((tiny_Parts a0.most).Protected) < r44)) rfl (fun h46 => ?_) fun h46 => ?_
          · have hm47 := ift hm45 h46
            clear hm45
            refine c_seq ?_
            refine c_reg ?_
            refine r_u (o_mv rfl) ?_
            refine r_u (o_nc rfl) ?_
            refine r_u (o_fa fa57_2 rfl) ?_
            refine r_u (o_ld 8 sc53 rfl rfl rfl) ?_
            obtain ⟨r48, hr48, hm49⟩ := bs hm47
            clear hm47
            refine r_c (s_w (o_call ca52 rfl (ring_Rings_Back.ok b19 r37.2 g38 2 r48 hr48))) ?_
            refine r_u (o_mv rfl) ?_
            refine r_u (o_ext rfl rfl) ?_
            refine r_u (o_ext rfl rfl) ?_
            refine r_u (o_as rfl) ?_
            refine r_u (o_as rfl) ?_
            refine r_nil ?_
            refine x_seq ?_
            refine c_reg ?_
            refine r_u (o_mv rfl) ?_
            refine r_u (o_nc rfl) ?_
            refine r_u (o_fa fa57_2 rfl) ?_
            refine r_u (o_ld 8 sc53 rfl rfl rfl) ?_
            refine r_u (o_mv rfl) ?_
            obtain ⟨r50, hr50, hm56⟩ := bs hm49
            clear hm49
            refine r_sw (s_w (o_call ca49 rfl (ring_Rings_Front.ok b19 r37.2 g38 1 r48.1 r50 hr50))) ?_
            rintro _ R _ _ ⟨g51, rfl, rfl, rfl⟩
            refine r_nil ?_
            refine x_seq ?_
            refine c_seq ?_
            refine c_reg ?_
            refine r_u (o_as rfl) ?_
            refine r_nil ?_
            refine x_seq ?_
            refine c_ret ?_
            refine ex_st (fun _ h => mv7 (mv7 (mv7 h))) ?_
            refine ex_st (fun _ h => st_some (f := sketch_Sketch.op g2) (a := r16) (st_star_f (A := sketch_Sketch.fl b11 r16 g2) h)) ?_
            refine ex_st (fun _ h => mv5 (mv5 (mv5 (mv5 (mv5 h))))) ?_
            refine ex_st (fun _ h => st_some (f := ring_Rings.op g51) (a := r50.2) (st_star_f (A := ring_Rings.fl b19 r50.2 g51) h)) ?_
            obtain rfl := Option.some.inj hm56
            refine ex_st (fun _ h => st_pk 3 [2, 1, 0] (by decide) h) ?_
            exact x_r1 rfl (rv_t rfl) (Le.refl _) ⟨_, rfl, (⟨(pt b11 0, g2), (pt b19 0, g51)⟩ : tiny_Tiny.G), rfl, rfl, rfl⟩
          · have hm47 := iff_ hm45 h46
            clear hm45
            refine c_skip ?_
            refine x_seq ?_
            refine c_seq ?_
            refine c_reg ?_
            refine r_u (o_as rfl) ?_
            refine r_nil ?_
            refine x_seq ?_
            refine c_ret ?_
            refine ex_st (fun _ h => mv7 (mv7 (mv7 h))) ?_
            refine ex_st (fun _ h => st_some (f := sketch_Sketch.op g2) (a := r16) (st_star_f (A := sketch_Sketch.fl b11 r16 g2) h)) ?_
            refine ex_st (fun _ h => mv5 (mv5 (mv5 (mv5 (mv5 h))))) ?_
            refine ex_st (fun _ h => st_some (f := ring_Rings.op g38) (a := r37.2) (st_star_f (A := ring_Rings.fl b19 r37.2 g38) h)) ?_
            obtain rfl := Option.some.inj hm47
            refine ex_st (fun _ h => st_pk 3 [2, 1, 0] (by decide) h) ?_
            exact x_r1 rfl (rv_t rfl) (Le.refl _) ⟨_, rfl, (⟨(pt b11 0, g2), (pt b19 0, g38)⟩ : tiny_Tiny.G), rfl, rfl, rfl⟩

def tiny_Tiny_Len (a0 : tiny_Tiny) : Option Int :=
  om a0.r (none) fun x6 => (ring_Rings_Len x6 0).bind fun r14 => (ring_Rings_Len x6 1).bind fun r16 => (ring_Rings_Len x6 2).bind fun r18 => some (i64 ((i64 (r14 + r16)) + r18))
theorem tiny_Tiny_Len.ok {G R F} (b0_ : Nat) (a0 : tiny_Tiny) (g0_ : tiny_Tiny.G) (r : Int) (hm : tiny_Tiny_Len a0 = some r) : CO Tryz.prog 24 [pt b0_ 0] G R (Bk b0_ 57 [vI a0.most, g0_.s.1, g0_.r.1] :: rO (sketch_Sketch.op g0_.s.2) g0_.s.1 a0.s :: rO (ring_Rings.op g0_.r.2) g0_.r.1 a0.r :: F)
    (Ret fun u R' L' => u = vI r ∧ R' = R ∧ L' = Bk b0_ 57 [vI a0.most, g0_.s.1, g0_.r.1] :: rO (sketch_Sketch.op g0_.s.2) g0_.s.1 a0.s :: rO (ring_Rings.op g0_.r.2) g0_.r.1 a0.r :: F) := by
  obtain ⟨⟨pv1, g2⟩, ⟨pv4, g5⟩⟩ := g0_
  unfold tiny_Tiny_Len at hm
  refine co_ofN (N := 22) Tryz.func24 rfl rfl ?_
  refine c_seq ?_
  refine c_reg ?_
  refine r_u (o_as rfl) ?_
  refine r_nil ?_
  refine x_seq ?_
  refine c_seq ?_
  refine c_seq ?_
  refine c_reg ?_
  refine r_u (o_mv rfl) ?_
  refine r_u (o_bin rfl rfl (bP_eqp Tryz.underlying24)) ?_
  refine r_nil ?_
  refine x_seq ?_
  refine c_ff rfl ?_
  refine c_skip ?_
  refine x_seq ?_
  refine c_seq ?_
  refine cd_st (fun _ h => mv2 h) ?_
  refine cd_opt (fun ho8 => ?_) (fun x6 b7 ho8 => ?_)
  · rintro rfl
    have hm9 := om_n hm ho8
    clear hm
    cases hm9
  · rintro rfl
    have hm9 := om_s hm ho8
    clear hm
    refine cd_st (fun _ h => st_star_o h) ?_
    obtain ⟨r14, hr14, hm15⟩ := bs hm9
    clear hm9
    obtain ⟨r16, hr16, hm17⟩ := bs hm15
    clear hm15
    obtain ⟨r18, hr18, hm19⟩ := bs hm17
    clear hm17
    refine c_any mixed (effs := []) (V := []) ?_
    refine stage_ext [(0, pt b0_ 0), (1, pt b0_ 0), (2, pt b0_ 2), (3, pt b7 0), (4, vI r14), (5, pt b0_ 0), (6, pt b0_ 0), (7, pt b0_ 2), (8, pt b7 0), (9, vI r16), (10, vI (i64 (r14 + r16))), (11, pt b0_ 0), (12, pt b0_ 0), (13, pt b0_ 2), (14, pt b7 0), (15, vI r18), (16, vI (i64 ((i64 (r14 + r16)) + r18))), (17, vI (i64 ((i64 (r14 + r16)) + r18)))] rfl ?_
    refine stage rfl rfl rfl rfl [0, 1, 3, 7, 15, 0, 32, 96, 224, 511, 1023, 0, 2048, 6144, 14336, 31743, 65535, 131071] [0, 1, 2, 3, 4, 5, 6, 7, 8, 9, 10, 11, 12, 13, 14, 15, 16, 17] [] rfl rfl rfl (qc rfl rfl (s_u (o_mv rfl)) (qc rfl rfl (s_u (o_nc rfl)) (qc rfl rfl (s_u (o_fa fa57_2 rfl)) (qc rfl rfl (s_u (o_ld 5 sc53 rfl rfl rfl)) (qc rfl rfl (s_u (o_callqP ca50 rfl (ring_Rings_Len.ok b7 x6 g5 0 r14 hr14) (fun _ h => st_pk 7 [0, 1, 2, 3, 4, 5, 6] (by decide) h) (fun _ h => st_pk 7 [0, 1, 2, 3, 4, 5, 6] (by decide) h))) (qc rfl rfl (s_u (o_mv rfl)) (qc rfl rfl (s_u (o_nc rfl)) (qc rfl rfl (s_u (o_fa fa57_2 rfl)) (qc rfl rfl (s_u (o_ld 5 sc53 rfl rfl rfl)) (qc rfl rfl (s_u (o_callqP ca50 rfl (ring_Rings_Len.ok b7 x6 g5 1 r16 hr16) (fun _ h => st_pk 7 [0, 1, 2, 3, 4, 5, 6] (by decide) h) (fun _ h => st_pk 7 [0, 1, 2, 3, 4, 5, 6] (by decide) h))) (qc rfl rfl (s_u (o_bin rfl rfl (bI_add r14 r16))) (qc rfl rfl (s_u (o_mv rfl)) (qc rfl rfl (s_u (o_nc rfl)) (qc rfl rfl (s_u (o_fa fa57_2 rfl)) (qc rfl rfl (s_u (o_ld 5 sc53 rfl rfl rfl)) (qc rfl rfl (s_u (o_callqP ca50 rfl (ring_Rings_Len.ok b7 x6 g5 2 r18 hr18) (fun _ h => st_pk 7 [0, 1, 2, 3, 4, 5, 6] (by decide) h) (fun _ h => st_pk 7 [0, 1, 2, 3, 4, 5, 6] (by decide) h))) (qc rfl rfl (s_u (o_bin rfl rfl (bI_add (i64 (r14 + r16)) r18))) (qc rfl rfl (s_u (o_as rfl)) qn)))))))))))))))))) en ?_
    intro _
    refine ex_sub (E' := [(2, vI (i64 ((i64 (r14 + r16)) + r18)))]) ⟨rfl, trivial⟩ ?_
    refine x_seq ?_
    refine c_ret ?_
    refine ex_st (fun _ h => st_some (f := ring_Rings.op g5) (a := x6) (st_star_f (A := ring_Rings.fl b7 x6 g5) h)) ?_
    refine ex_st (fun _ h => st_back ho8 h) ?_
    obtain rfl := Option.some.inj hm19
    refine ex_st (fun _ h => st_pk 3 [1, 2, 0] (by decide) h) ?_
    exact x_r1 rfl (rv_t rfl) (Le.refl _) ⟨_, rfl, rfl, rfl, rfl⟩

def tiny_Tiny_last (a0 : tiny_Tiny) : Option (Str × Bool) :=
  om a0.r (none) fun x6 => (ring_Rings_Back x6 1).bind fun r14 => if r14.2 then some (r14.1, true) else (ring_Rings_Back x6 2).bind fun r18 => some (r18.1, r18.2)
theorem tiny_Tiny_last.ok {G R F} (b0_ : Nat) (a0 : tiny_Tiny) (g0_ : tiny_Tiny.G) (r : Str × Bool) (hm : tiny_Tiny_last a0 = some r) : CO Tryz.prog 53 [pt b0_ 0] G R (Bk b0_ 57 [vI a0.most, g0_.s.1, g0_.r.1] :: rO (sketch_Sketch.op g0_.s.2) g0_.s.1 a0.s :: rO (ring_Rings.op g0_.r.2) g0_.r.1 a0.r :: F)
    (Ret fun u R' L' => u = .tuple #[vS r.1, vB r.2] ∧ R' = R ∧ L' = Bk b0_ 57 [vI a0.most, g0_.s.1, g0_.r.1] :: rO (sketch_Sketch.op g0_.s.2) g0_.s.1 a0.s :: rO (ring_Rings.op g0_.r.2) g0_.r.1 a0.r :: F) := by
  obtain ⟨⟨pv1, g2⟩, ⟨pv4, g5⟩⟩ := g0_
  unfold tiny_Tiny_last at hm
  refine co_ofN (N := 23) Tryz.func53 rfl rfl ?_
  refine c_seq ?_
  refine c_reg ?_
  refine r_u (o_as rfl) ?_
  refine r_u (o_as rfl) ?_
  refine r_nil ?_
  refine x_seq ?_
  refine c_seq ?_
  refine c_seq ?_
  refine cd_st (fun _ h => mv2 h) ?_
  refine cd_opt (fun ho8 => ?_) (fun x6 b7 ho8 => ?_)
  · rintro rfl
    have hm9 := om_n hm ho8
    clear hm
    cases hm9
  · rintro rfl
    have hm9 := om_s hm ho8
    clear hm
    refine cd_st (fun _ h => st_star_o h) ?_
    refine c_reg ?_
    refine r_u (o_mv rfl) ?_
    refine r_u (o_nc rfl) ?_
    refine r_u (o_fa fa57_2 rfl) ?_
    refine r_u (o_ld 5 sc53 rfl rfl rfl) ?_
    obtain ⟨r14, hr14, hm15⟩ := bs hm9
    clear hm9
    refine r_c (s_w (o_call ca52 rfl (ring_Rings_Back.ok b7 x6 g5 1 r14 hr14))) ?_
    refine r_u (o_mv rfl) ?_
    refine r_u (o_ext rfl rfl) ?_
    refine r_u (o_ext rfl rfl) ?_
    refine r_u (o_as rfl) ?_
    refine r_u (o_as rfl) ?_
    refine r_nil ?_
    refine x_seq ?_
    refine c_seq ?_
    refine c_reg ?_
    refine r_u (o_mv rfl) ?_
    refine r_nil ?_
    refine x_seq ?_
    refine c_if (b := r14.2) rfl (fun h16 => ?_) fun h16 => ?_
    · have hm17 := ift hm15 h16
      clear hm15
      refine c_seq ?_
      refine c_reg ?_
      refine r_u (o_mv rfl) ?_
      refine r_u (o_as rfl) ?_
      refine r_u (o_as rfl) ?_
      refine r_nil ?_
      refine x_seq ?_
      refine c_ret ?_
      refine ex_st (fun _ h => st_some (f := ring_Rings.op g5) (a := x6) (st_star_f (A := ring_Rings.fl b7 x6 g5) h)) ?_
      refine ex_st (fun _ h => st_back ho8 h) ?_
      obtain rfl := Option.some.inj hm17
      refine ex_st (fun _ h => st_pk 3 [1, 2, 0] (by decide) h) ?_
      exact x_r2 rfl (rv_t rfl) (rv_t rfl) (Le.refl _) ⟨_, rfl, rfl, rfl, rfl⟩
    · have hm17 := iff_ hm15 h16
      clear hm15
      refine c_skip ?_
      refine x_seq ?_
      refine c_seq ?_
      refine c_reg ?_
      refine r_u (o_mv rfl) ?_
      refine r_u (o_nc rfl) ?_
      refine r_u (o_fa fa57_2 rfl) ?_
      refine r_u (o_ld 5 sc53 rfl rfl rfl) ?_
      obtain ⟨r18, hr18, hm19⟩ := bs hm17
      clear hm17
      refine r_c (s_w (o_call ca52 rfl (ring_Rings_Back.ok b7 x6 g5 2 r18 hr18))) ?_
      refine r_u (o_ext rfl rfl) ?_
      refine r_u (o_ext rfl rfl) ?_
      refine r_u (o_as rfl) ?_
      refine r_u (o_as rfl) ?_
      refine r_nil ?_
      refine x_seq ?_
      refine c_ret ?_
      refine ex_st (fun _ h => st_some (f := ring_Rings.op g5) (a := x6) (st_star_f (A := ring_Rings.fl b7 x6 g5) h)) ?_
      refine ex_st (fun _ h => st_back ho8 h) ?_
      obtain rfl := Option.some.inj hm19
      refine ex_st (fun _ h => st_pk 3 [1, 2, 0] (by decide) h) ?_
      exact x_r2 rfl (rv_t rfl) (rv_t rfl) (Le.refl _) ⟨_, rfl, rfl, rfl, rfl⟩

def sketch_Sketch_Seen (a0 : sketch_Sketch) (a1 : Str) : Option Int :=
  (sketch_Sketch_least a0 a1).bind fun r2 => (sketch_Sketch_place a0 a1 4).bind fun r4 => (gi a0.door r4).bind fun x6 => if x6 then some (i64 ((r2.toNat : Int) + 1)) else some (r2.toNat : Int)
theorem sketch_Sketch_Seen.ok {G R F} (b0_ : Nat) (a0 : sketch_Sketch) (g0_ : sketch_Sketch.G) (a1 : Str) (r : Int) (hm : sketch_Sketch_Seen a0 a1 = some r) : CO Tryz.prog 39 [pt b0_ 0, vS a1] G R (Bk b0_ 84 [vI a0.wide, vW a0.seed, g0_.rows.1, g0_.rows.2.1, g0_.rows.2.2.1, g0_.rows.2.2.2, g0_.door, vI a0.added] :: OwL (OwS false 5 1 eY) [g0_.rows.1, g0_.rows.2.1, g0_.rows.2.2.1, g0_.rows.2.2.2] a0.rows :: OwS true 4 1 eB g0_.door a0.door :: F)
    (Ret fun u R' L' => u = vI r ∧ R' = R ∧ L' = Bk b0_ 84 [vI a0.wide, vW a0.seed, g0_.rows.1, g0_.rows.2.1, g0_.rows.2.2.1, g0_.rows.2.2.2, g0_.door, vI a0.added] :: OwL (OwS false 5 1 eY) [g0_.rows.1, g0_.rows.2.1, g0_.rows.2.2.1, g0_.rows.2.2.2] a0.rows :: OwS true 4 1 eB g0_.door a0.door :: F) := by
  unfold sketch_Sketch_Seen at hm
  refine co_ofN (N := 24) Tryz.func39 rfl rfl ?_
  refine c_seq ?_
  refine c_reg ?_
  refine r_u (o_as rfl) ?_
  refine r_nil ?_
  refine x_seq ?_
  refine c_seq ?_
  refine c_seq ?_
  refine c_reg ?_
  refine r_u (o_mv rfl) ?_
  refine r_u (o_bin rfl rfl (bP_eqp Tryz.underlying49)) ?_
  refine r_nil ?_
  refine x_seq ?_
  refine c_ff rfl ?_
  refine c_skip ?_
  refine x_seq ?_
  refine c_seq ?_
  refine c_reg ?_
  refine r_u (o_mv rfl) ?_
  refine r_u (o_mv rfl) ?_
  obtain ⟨r2, hr2, hm3⟩ := bs hm
  clear hm
  refine r_c (s_w (o_call ca65 rfl (sketch_Sketch_least.ok b0_ a0 g0_ a1 r2 hr2))) ?_
  refine r_u (o_cv rfl (cYI Tryz.underlying5 Tryz.underlying3 r2)) ?_
  refine r_u (o_as rfl) ?_
  refine r_nil ?_
  refine x_seq ?_
  refine c_seq ?_
  refine c_seq ?_
  obtain ⟨r4, hr4, hm5⟩ := bs hm3
  clear hm3
  obtain ⟨x6, hx6, hm7⟩ := bs hm5
  clear hm5
  refine c_any mixed (effs := []) (V := []) ?_
  refine stage_ext [(0, pt b0_ 0), (1, pt b0_ 0), (2, pt b0_ 6), (3, g0_.door), (4, pt b0_ 0), (5, vS a1), (6, vI r4), (7, pt (sb g0_.door) (so g0_.door + r4.toNat * 1)), (8, vB x6)] rfl ?_
  refine stage rfl rfl rfl rfl [0, 1, 3, 7, 0, 0, 48, 127, 255] [0, 1, 2, 3, 4, 5, 6, 7, 8] [] rfl rfl rfl (qc rfl rfl (s_u (o_mv rfl)) (qc rfl rfl (s_u (o_nc rfl)) (qc rfl rfl (s_u (o_fa fa84_3 rfl)) (qc rfl rfl (s_u (o_ld 0 sc29 rfl rfl rfl)) (qc rfl rfl (s_u (o_mv rfl)) (qc rfl rfl (s_u (o_mv rfl)) (qc rfl rfl (s_u (o_callqP ca66 rfl (sketch_Sketch_place.ok b0_ a0 g0_ a1 4 r4 hr4) (fun _ h => st_pk 3 [0, 1, 2] (by decide) h) (fun _ h => st_pk 3 [0, 1, 2] (by decide) h))) (qc rfl rfl (s_u (o_ixO 2 Tryz.underlying29 (fun _ => by kernel_rfl) rfl rfl rfl hx6)) (qc rfl rfl (s_u (o_ldO0 2 sc4 rfl rfl hx6 rfl rfl)) qn))))))))) en ?_
  intro _
  refine ex_sub (E' := [(5, vI (r2.toNat : Int)), (20, vB x6)]) ⟨rfl, rfl, trivial⟩ ?_
  refine x_seq ?_
  refine c_if (b := x6) rfl (fun h8 => ?_) fun h8 => ?_
  · have hm9 := ift hm7 h8
    clear hm7
    refine c_reg ?_
    refine r_u (o_mv rfl) ?_
    refine r_u (o_bin rfl rfl (bI_add (r2.toNat : Int) 1)) ?_
    refine r_u (o_as rfl) ?_
    refine r_nil ?_
    refine x_seq ?_
    refine c_seq ?_
    refine c_reg ?_
    refine r_u (o_mv rfl) ?_
    refine r_u (o_as rfl) ?_
    refine r_nil ?_
    refine x_seq ?_
    refine c_ret ?_
    obtain rfl := Option.some.inj hm9
    exact x_r1 rfl (rv_t rfl) (Le.refl _) ⟨_, rfl, rfl, rfl, rfl⟩
  · have hm9 := iff_ hm7 h8
    clear hm7
    refine c_skip ?_
    refine x_seq ?_
    refine c_seq ?_
    refine c_reg ?_
    refine r_u (o_mv rfl) ?_
    refine r_u (o_as rfl) ?_
    refine r_nil ?_
    refine x_seq ?_
    refine c_ret ?_
    obtain rfl := Option.some.inj hm9
    exact x_r1 rfl (rv_t rfl) (Le.refl _) ⟨_, rfl, rfl, rfl, rfl⟩

def ring_Rings_Drop (a0 : ring_Rings) (a1 : Str) : Option (Bool × ring_Rings) :=
  if (mget a0.at_ a1).isSome then (ring_Rings_cut a0 ((mget a0.at_ a1).getD (0 : Int))).bind fun r6 => (gi r6.slots ((mget a0.at_ a1).getD (0 : Int))).bind fun x8 => (apd 8 r6.free [((mget a0.at_ a1).getD (0 : Int))]).bind fun l12 => some ((mget a0.at_ a1).isSome, (⟨r6.lists, ls r6.slots ((mget a0.at_ a1).getD (0 : Int)) (⟨[], 0, 0, 0⟩ : ring_slot), l12, mdel r6.at_ a1, r6.many⟩ : ring_Rings)) else some ((mget a0.at_ a1).isSome, a0)
theorem ring_Rings_Drop.ok {G R F} (b0_ : Nat) (a0 : ring_Rings) (g0_ : ring_Rings.G) (a1 : Str) (r : Bool × ring_Rings) (hm : ring_Rings_Drop a0 a1 = some r) : CO Tryz.prog 54 [pt b0_ 0, vS a1] G R (Bk b0_ 89 [vI a0.lists, g0_.slots, g0_.free, g0_.at_, g0_.many] :: OwS true 91 4 ring_slot.c g0_.slots a0.slots :: OwS true 3 1 eI g0_.free a0.free :: OwM vS vI g0_.at_ a0.at_ :: OwS true 3 1 eI g0_.many a0.many :: F)
    (Ret fun u R' L' => ∃ (q0 : ring_Rings.G), u = vB r.1 ∧ R' = R ∧ L' = Bk b0_ 89 [vI r.2.lists, q0.slots, q0.free, q0.at_, q0.many] :: OwS true 91 4 ring_slot.c q0.slots r.2.slots :: OwS true 3 1 eI q0.free r.2.free :: OwM vS vI q0.at_ r.2.at_ :: OwS true 3 1 eI q0.many r.2.many :: F) := by
  unfold ring_Rings_Drop at hm
  refine co_ofN (N := 45) Tryz.func54 rfl rfl ?_
  refine c_seq ?_
  refine c_reg ?_
  refine r_u (o_as rfl) ?_
  refine r_nil ?_
  refine x_seq ?_
  refine c_seq ?_
  refine c_seq ?_
  refine c_reg ?_
  refine r_u (o_mv rfl) ?_
  refine r_u (o_bin rfl rfl (bP_eqp Tryz.underlying53)) ?_
  refine r_nil ?_
  refine x_seq ?_
  refine c_ff rfl ?_
  refine c_skip ?_
  refine x_seq ?_
  refine c_seq ?_
  refine c_reg ?_
  refine r_u (o_mv rfl) ?_
  refine r_u (o_nc rfl) ?_
  refine r_u (o_fa fa89_3 rfl) ?_
  refine r_u (o_ld 0 sc85 rfl rfl rfl) ?_
  refine r_u (o_mv rfl) ?_
  refine r_u (o_lk (kv := vS) (vv := vI) (key := a1) (z0 := (0 : Int)) 3 Tryz.underlying85 (kok_S Tryz.underlying9) (fun _ => by kernel_rfl) rfl rfl rfl) ?_
  refine r_u (o_mv rfl) ?_
  refine r_u (o_ext rfl rfl) ?_
  refine r_u (o_ext rfl rfl) ?_
  refine r_u (o_as rfl) ?_
  refine r_u (o_as rfl) ?_
  refine r_nil ?_
  refine x_seq ?_
  refine c_seq ?_
  refine c_seq ?_
  refine c_reg ?_
  refine r_u (o_mv rfl) ?_
  refine r_nil ?_
  refine x_seq ?_
  refine c_if (b := (mget a0.at_ a1).isSome) rfl (fun h4 => ?_) fun h4 => ?_
  · have hm5 := ift hm h4
    clear hm
    refine c_seq ?_
    refine c_reg ?_
    refine r_u (o_mv rfl) ?_
    refine r_u (o_mv rfl) ?_
    obtain ⟨r6, hr6, hm7⟩ := bs hm5
    clear hm5
    refine r_c (s_w (o_call ca77 rfl (ring_Rings_cut.ok b0_ a0 g0_ ((mget a0.at_ a1).getD (0 : Int)) r6 hr6))) ?_
    refine r_nil ?_
    refine x_seq ?_
    refine c_seq ?_
    refine c_reg ?_
    refine r_u (o_mv rfl) ?_
    refine r_u (o_nc rfl) ?_
    refine r_u (o_fa fa89_3 rfl) ?_
    refine r_u (o_ld 0 sc85 rfl rfl rfl) ?_
    refine r_u (o_mv rfl) ?_
    refine rl_st (fun _ h => mv3 h) ?_
    refine r_u0 (o_del (kv := vS) (vv := vI) (key := a1) Tryz.underlying85 (kok_S Tryz.underlying9) rfl rfl rfl rfl) ?_
    refine r_nil ?_
    refine x_seq ?_
    refine c_seq ?_
    refine c_reg ?_
    refine r_u (o_mv rfl) ?_
    refine r_u (o_nc rfl) ?_
    refine r_u (o_fa fa89_1 rfl) ?_
    refine r_u (o_ld 1 sc87 rfl rfl rfl) ?_
    refine r_u (o_mv rfl) ?_
    refine r_u (o_bld [vS [], vI 0, vI 0, vI 0] rfl (fun _ => by kernel_rfl)) ?_
    obtain ⟨x8, hx8, hm9⟩ := bs hm7
    clear hm7
    refine r_u (o_ixO 2 Tryz.underlying87 (fun _ => by kernel_rfl) rfl rfl rfl hx8) ?_
    refine rl_st (fun _ h => mv2 h) ?_
    refine r_u0 (o_stnO (c' := (⟨[], 0, 0, 0⟩ : ring_slot)) ag91 rfl rfl rfl hx8 rfl rfl rfl) ?_
    refine r_nil ?_
    refine x_seq ?_
    refine c_reg ?_
    refine r_u (o_mv rfl) ?_
    refine r_u (o_mv rfl) ?_
    refine r_u (o_nc rfl) ?_
    refine r_u (o_fa fa89_2 rfl) ?_
    refine r_u (o_ld 2 sc86 rfl rfl rfl) ?_
    refine r_u (o_mv rfl) ?_
    refine r_sw (s_w (o_bsl (en := eI) (sz := 1) (e := 3) (cs := [vI ((mget a0.at_ a1).getD (0 : Int))]) (r := [((mget a0.at_ a1).getD (0 : Int))]) rfl (fun _ => by kernel_rfl) rfl (by decide) rfl (fun _ => rfl))) ?_
    rintro v10 R _ _ ⟨rfl, rfl⟩
    obtain ⟨l12, hl12, hm13⟩ := bs hm9
    clear hm9
    refine rl_st (fun _ h => mv4 h) ?_
    refine r_sw (s_w (o_ap (sz := 1) (bytes := 8) 0 Tryz.underlying86 rfl rfl rfl rfl rfl (by decide) (by decide) (fun _ _ _ h => by simp at h; subst h; rfl) (fun _ => rfl) rfl rfl rfl rfl (Nat.succ_pos _) hl12)) ?_
    rintro v11 R _ _ ⟨rfl, rfl⟩
    refine r_u (o_nc rfl) ?_
    refine r_u (o_fa fa89_2 rfl) ?_
    refine rl_st (fun _ h => mv4 h) ?_
    refine r_u0 (ou_if (one_o 1 rfl) fun ho0 => o_st sc86 rfl rfl rfl ho0 rfl rfl) ?_
    refine r_nil ?_
    refine x_seq ?_
    refine c_seq ?_
    refine c_reg ?_
    refine r_u (o_mv rfl) ?_
    refine r_u (o_as rfl) ?_
    refine r_nil ?_
    refine x_seq ?_
    refine c_ret ?_
    obtain rfl := Option.some.inj hm13
    refine ex_st (fun _ h => st_pk 6 [0, 3, 1, 4, 5] (by decide) h) ?_
    exact x_r1 rfl (rv_t rfl) (Le.refl _) ⟨_, rfl, (⟨g0_.slots, v11, g0_.at_, g0_.many⟩ : ring_Rings.G), rfl, rfl, rfl⟩
  · have hm5 := iff_ hm h4
    clear hm
    refine c_skip ?_
    refine x_seq ?_
    refine c_seq ?_
    refine c_reg ?_
    refine r_u (o_mv rfl) ?_
    refine r_u (o_as rfl) ?_
    refine r_nil ?_
    refine x_seq ?_
    refine c_ret ?_
    obtain rfl := Option.some.inj hm5
    exact x_r1 rfl (rv_t rfl) (Le.refl _) ⟨_, rfl, g0_, rfl, rfl, rfl⟩

end Go.Proofs.YtlahbmoebbflbaaGreat
