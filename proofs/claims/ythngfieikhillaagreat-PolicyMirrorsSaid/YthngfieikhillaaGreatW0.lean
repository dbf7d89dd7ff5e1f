import Derived.Test.YthngfieikhillaaGreatFacts
import Derived.Test.YthngfieikhillaaGreatHwY
set_option linter.unusedVariables false
set_option linter.unusedSectionVars false
set_option linter.unusedSimpArgs false
set_option maxRecDepth 100000
set_option maxHeartbeats 8000000
namespace Go.Proofs.YthngfieikhillaaGreat
open Go Go.Proofs.YthngfieikhillaaGreat.Hw
theorem noEsc (v : Value) (w : World) : (callFunc 132 #[v]).run Tryz.prog w = .ok (.value v) w := by
 rw [run_callFunc_extern Tryz.func132 (by kernel_rfl) (by kernel_rfl) (by kernel_rfl) (e := Extern.AbiNoEscape.same) (by kernel_rfl), Lib.run_noEscape]
 rfl
theorem infoB : ∃ j, Tryz.prog.info? 113 = some j ∧ j.size ≠ 0 := ⟨_, rfl, by decide⟩
theorem bld_copyCheck.ok {G R F} (b : Nat) (p v : Value) (hp : p = nl ∨ p = pt b 0) : CO Tryz.prog 110 [pt b 0] G R (Blk b (.cells (List.toArray [p, v]) 113 (0, 0)) :: F)
  (Ret fun u R' L' => u = .tuple #[] ∧ R' = R ∧ L' = Blk b (.cells (List.toArray [pt b 0, v]) 113 (0, 0)) :: F) := by
 obtain ⟨j, hj, hj0⟩ := infoB
 refine co_ofN (N := 20) Tryz.func110 rfl rfl ?_
 refine c_seq ?_
 refine c_reg ?_
 refine r_u (o_mv rfl) ?_
 refine r_u (o_nc rfl) ?_
 refine r_u (o_fa fa113_0 rfl) ?_
 refine r_u (o_ld 0 sc110 rfl rfl rfl) ?_
 rcases hp with rfl | rfl
 ·refine r_u (o_bin rfl rfl (bP_eqn Tryz.underlying110)) ?_
  refine r_nil ?_
  refine x_seq ?_
  refine c_tt rfl ?_
  refine c_reg ?_
  refine r_u (o_mv rfl) ?_
  refine r_u (o_mv rfl) ?_
  refine r_u (o_tu 0 Tryz.underlying110 Tryz.underlying168 hj hj0 rfl rfl rfl) ?_
  refine r_u (o_same noEsc rfl) ?_
  refine r_u (o_fu 0 Tryz.underlying168 Tryz.underlying110 hj rfl rfl (by kernel_rfl)) ?_
  refine r_u (o_nc rfl) ?_
  refine r_u (o_fa fa113_0 rfl) ?_
  refine r_u0 (o_st sc110 rfl rfl rfl rfl rfl rfl) ?_
  refine r_nil ?_
  refine x_end ?_
  exact x_r0 rfl (Le.refl _) ⟨_, rfl, rfl, rfl, rfl⟩
 ·refine r_u (o_bin rfl rfl (bP_eqp Tryz.underlying110)) ?_
  refine r_nil ?_
  refine x_seq ?_
  refine c_ff rfl ?_
  refine c_seq ?_
  refine c_reg ?_
  refine r_u (o_mv rfl) ?_
  refine r_u (o_nc rfl) ?_
  refine r_u (o_fa fa113_0 rfl) ?_
  refine r_u (o_ld 0 sc110 rfl rfl rfl) ?_
  refine r_u (o_mv rfl) ?_
  refine r_u (o_bin rfl rfl (bP_same Tryz.underlying110 hj)) ?_
  refine r_nil ?_
  refine x_seq ?_
  refine c_ff rfl ?_
  refine c_skip ?_
  refine x_end ?_
  exact x_r0 rfl (Le.refl _) ⟨_, rfl, rfl, rfl, rfl⟩
theorem bld_WriteByte.ok {G R F} (b : Nat) (s : Str) (c : UInt8) (r : Str) (hm : apd 1 s [c] = some r) : CO Tryz.prog 78 [pt b 0, vY c] G R (Bld 113 5 b s :: F)
  (Ret fun u R' L' => u = .nilIface ∧ R' = R ∧ L' = Bld 113 5 b r :: F) := by
 refine co_ofN (N := 17) Tryz.func78 rfl rfl ?_
 refine bld_open_cd fun p v hp hv => ?_
 refine c_seq ?_
 refine c_reg ?_
 refine r_u (o_as rfl) ?_
 refine r_nil ?_
 refine x_seq ?_
 refine c_seq ?_
 refine c_reg ?_
 refine r_u (o_mv rfl) ?_
 refine r_c (s_w (o_call ca110 rfl (bld_copyCheck.ok b p v hp))) ?_
 refine r_nil ?_
 refine x_seq ?_
 refine c_seq ?_
 refine c_reg ?_
 refine r_u (o_mv rfl) ?_
 refine r_u (o_mv rfl) ?_
 refine r_u (o_nc rfl) ?_
 refine r_u (o_fa fa113_1 rfl) ?_
 refine r_u (o_ld 0 sc111 rfl rfl rfl) ?_
 refine r_u (o_mv rfl) ?_
 refine r_sw (s_w (o_bsl (en := eY) (sz := 1) (e := 5) (cs := [vY c]) (r := [c]) rfl (fun _ => by kernel_rfl) rfl (by decide) rfl (fun _ => rfl))) ?_
 rintro v2 _ _ _ ⟨rfl, rfl⟩
 refine rl_st (fun _ h => st_pk 3 [2, 0, 1] (by decide) h) ?_
 refine r_sw (s_w (o_ap (sz := 1) (bytes := 1) 0 Tryz.underlying111 rfl rfl rfl rfl rfl (by decide) (by decide) (fun _ _ _ h => by simp at h; subst h; rfl) (fun _ => rfl) rfl rfl rfl rfl (Nat.succ_pos _) hm)) ?_
 rintro v3 _ _ _ ⟨rfl, rfl⟩
 refine r_u (o_nc rfl) ?_
 refine r_u (o_fa fa113_1 rfl) ?_
 refine rl_st (fun _ h => st_pk 3 [2, 0] (by decide) h) ?_
 refine r_u0 (o_stS 1 sc111 rfl rfl rfl rfl rfl rfl) ?_
 refine r_nil ?_
 refine x_seq ?_
 refine c_seq ?_
 refine c_reg ?_
 refine r_u (o_as rfl) ?_
 refine r_nil ?_
 refine x_seq ?_
 refine c_ret ?_
 refine ex_st (fun _ h => bld_close (.inr rfl) (fun e => by unfold apd at hm; split at hm <;> simp_all) h) ?_
 exact x_r1 rfl (rv_t rfl) (Le.refl _) ⟨_, rfl, rfl, rfl, rfl⟩
theorem bld_String.ok {G R F} (b : Nat) (s : Str) : CO Tryz.prog 79 [pt b 0] G R (Bld 113 5 b s :: F)
  (Ret fun u R' L' => u = vS s ∧ R' = R ∧ L' = F) := by
 refine co_ofN (N := 14) Tryz.func79 rfl rfl ?_
 refine bld_open_cd fun p v hp hv => ?_
 refine c_seq ?_
 refine c_reg ?_
 refine r_u (o_as rfl) ?_
 refine r_nil ?_
 refine x_seq ?_
 refine c_seq ?_
 by_cases hs : s = []
 ·obtain rfl := hv hs
  subst hs
  refine c_any mixed (effs := []) (V := []) ?_
  refine stage_ext [(0, pt b 0), (1, pt b 0), (2, pt b 1), (3, .slice none 0 0), (4, nl), (5, pt b 0), (6, pt b 0), (7, pt b 1), (8, .slice none 0 0), (9, vI 0), (10, vS []), (11, vS [])] rfl ?_
  refine stage rfl rfl rfl rfl [0, 1, 3, 7, 15, 0, 32, 96, 224, 480, 1023, 2047] [0, 1, 2, 3, 4, 5, 6, 7, 8, 9, 10, 11] [] rfl rfl rfl (qc rfl rfl (s_u (o_mv rfl)) (qc rfl rfl (s_u (o_nc rfl)) (qc rfl rfl (s_u (o_fa fa113_1 rfl)) (qc rfl rfl (s_u (o_ld 0 sc111 rfl rfl rfl)) (qc rfl rfl (s_u (o_sdn rfl)) (qc rfl rfl (s_u (o_mv rfl)) (qc rfl rfl (s_u (o_nc rfl)) (qc rfl rfl (s_u (o_fa fa113_1 rfl)) (qc rfl rfl (s_u (o_ld 0 sc111 rfl rfl rfl)) (qc rfl rfl (s_u (o_lenN Tryz.underlying111 rfl)) (qc rfl rfl (s_u (o_usn rfl rfl)) (qc rfl rfl (s_u (o_as rfl)) qn)))))))))))) en ?_
  intro _
  refine ex_sub (E' := [(2, vS [])]) ⟨rfl, trivial⟩ ?_
  refine x_seq ?_
  refine c_ret ?_
  refine ex_st (fun _ h => st_pk 2 [] (by decide) h) ?_
  exact x_r1 rfl (rv_t rfl) (Le.refl _) ⟨_, rfl, rfl, rfl, rfl⟩
 ·refine c_any mixed (effs := [10]) (V := []) ?_
  refine stage_ext [(0, pt b 0), (1, pt b 0), (2, pt b 1), (3, v), (4, pt (sb v) 0), (5, pt b 0), (6, pt b 0), (7, pt b 1), (8, v), (9, vI s.length)] rfl ?_
  refine stage_st (fun _ h => st_pk 2 [1, 0] (by decide) h) ?_
  refine stage rfl rfl rfl rfl [0, 1, 3, 7, 15, 0, 32, 96, 224, 480, 1023, 2047] [0, 1, 2, 3, 4, 5, 6, 7, 8, 9] [10] rfl rfl rfl (qc rfl rfl (s_u (o_mv rfl)) (qc rfl rfl (s_u (o_nc rfl)) (qc rfl rfl (s_u (o_fa fa113_1 rfl)) (qc rfl rfl (s_u (o_ld 1 sc111 rfl rfl rfl)) (qc rfl rfl (s_u (o_sd 0 rfl rfl hs)) (qc rfl rfl (s_u (o_mv rfl)) (qc rfl rfl (s_u (o_nc rfl)) (qc rfl rfl (s_u (o_fa fa113_1 rfl)) (qc rfl rfl (s_u (o_ld 1 sc111 rfl rfl rfl)) (qc rfl rfl (s_u (o_lenO 0 Tryz.underlying111 rfl rfl)) qn)))))))))) ?_ (fun h => absurd h (by decide))
  refine ec (eo_u rfl (s_u (o_us Tryz.underlying152 (by kernel_rfl) rfl rfl rfl hs)) (Le.refl _) ?_) en
  refine stage_ext [(11, vS s)] rfl ?_
  refine stage rfl rfl rfl rfl [0, 1, 3, 7, 15, 0, 32, 96, 224, 480, 1023, 2047] [11] [] rfl rfl rfl (qc rfl rfl (s_u (o_as rfl)) qn) en ?_
  intro _
  refine ex_sub (E' := [(2, vS s)]) ⟨rfl, trivial⟩ ?_
  refine x_seq ?_
  refine c_ret ?_
  refine ex_st (fun _ h => st_pk 1 [] (by decide) h) ?_
  exact x_r1 rfl (rv_t rfl) (Le.refl _) ⟨_, rfl, rfl, rfl, rfl⟩
theorem catch_pan {G : World} {R : PH} {L : List HP} {b : Nat} {n x : Int} {w : World} (hs : St G R (Blk b (.cells (List.toArray [vI x]) 24 (0, 0)) :: L) w) :
  CallsD Tryz.prog 85 #[pt b 0] (.panicking (pch 118 n)) w fun e u' w' => (∃ v, e = .returned v) ∧ u' = .panicking [{ v := .iface 118 (.agg #[vI n]), recovered := true }] ∧ St G R (Blk b (.cells (List.toArray [vI n]) 24 (0, 0)) :: L) w' := by
 refine callsD_of_wpS Tryz.func85 rfl fun c₀ cs hu => ?_
 apply wpS_seq
 refine wpS_rec (v := .iface 118 (.agg #[vI n])) (cs' := { c₀ with mode := .panicking [{ v := .iface 118 (.agg #[vI n]), recovered := true }] } :: cs) (by simp [recoverD, hu, pch]) ?_
 refine wpS_cd (N := 12) (E := [(4, .iface 118 (.agg #[vI n])), (0, pt b 0)]) (C := fun u R' L' => u = .tuple #[] ∧ R' = R ∧ L' = Blk b (.cells (List.toArray [vI n]) 24 (0, 0)) :: L) ?_ ((Fr.enter [pt b 0] 12).put (by simp) _) hs ?_
 ·refine c_blk ?_
  refine c_seq ?_
  refine c_reg ?_
  refine r_u (o_bin (v := vB false) rfl rfl (fun _ _ _ => by kernel_rfl)) ?_
  refine r_nil ?_
  refine x_seq ?_
  refine c_ff rfl ?_
  refine c_seq ?_
  refine c_reg ?_
  refine r_u (o_ta (v := .tuple #[.agg #[vI n], .bool true]) rfl (fun _ => by kernel_rfl)) ?_
  refine r_u (o_ext rfl rfl) ?_
  refine r_u (o_ext rfl rfl) ?_
  refine r_nil ?_
  refine x_seq ?_
  refine c_tt rfl ?_
  refine c_seq ?_
  refine c_reg ?_
  refine r_new (o_al ze118) fun b2 => ?_
  refine r_u0 (o_stn ag118 rfl rfl rfl rfl rfl rfl rfl) ?_
  refine r_nil ?_
  refine x_seq ?_
  refine c_reg ?_
  refine r_u (o_fa fa118_0 rfl) ?_
  refine r_u (o_ld 0 sc24 rfl rfl rfl) ?_
  refine rl_st (fun _ h => st_pk 2 [1, 0] (by decide) h) ?_
  refine r_u0 (o_st sc24 rfl rfl rfl rfl rfl rfl) ?_
  refine r_nil ?_
  refine x_blk ?_
  refine x_end ?_
  refine ex_st (fun _ h => st_pk 2 [0] (by decide) h) ?_
  exact x_r0 rfl (Le.refl _) ⟨_, rfl, rfl, rfl, rfl⟩
 ·rintro v w' R' L' _ ⟨rfl, rfl, rfl⟩ hst
  exact ⟨⟨_, rfl⟩, rfl, hst⟩
theorem catch_no {G : World} {R : PH} {L : List HP} {b : Nat} {w : World} (hs : St G R L w) :
  CallsD Tryz.prog 85 #[pt b 0] .returning w fun e u' w' => (∃ v, e = .returned v) ∧ u' = .returning ∧ St G R L w' := by
 refine callsD_of_wpS Tryz.func85 rfl fun c₀ cs hu => ?_
 apply wpS_seq
 refine wpS_rec0 (by simp [recoverD, hu]) ?_
 have e0 : c₀ = { c₀ with mode := .returning } := by cases c₀; simp_all
 refine wpS_cd (N := 12) (E := [(4, .nilIface), (0, pt b 0)]) (C := fun u R' L' => u = .tuple #[] ∧ R' = R ∧ L' = L) (u1 := .returning) ?_ ((Fr.enter [pt b 0] 12).put (by simp) _) hs ?_ e0
 ·refine c_blk ?_
  refine c_seq ?_
  refine c_reg ?_
  refine r_u (o_binc (r := vB true) rfl rfl (fun _ => by kernel_rfl)) ?_
  refine r_nil ?_
  refine x_seq ?_
  refine c_tt rfl ?_
  refine c_reg ?_
  refine r_u (o_as rfl) ?_
  refine r_nil ?_
  refine x_blk ?_
  refine x_end ?_
  exact x_r0 rfl (Le.refl _) ⟨_, rfl, rfl, rfl, rfl⟩
 ·rintro v w' R' L' _ ⟨rfl, rfl, rfl⟩ hst
  exact ⟨⟨_, rfl⟩, rfl, hst⟩
theorem read_leaves {G : World} {R : PH} {M : List HP} {b : Nat} {n : Int} {w : World} {tmps : Array Value} {K : Ending → PH → List HP → Prop} {q : HP}
  (ht : tmps[4]? = some (pt b 0)) (hs : St G R (Blk b (.cells (List.toArray [vI n]) 24 (0, 0)) :: q :: M) w) (hK : K (.returned (vI n)) R M) :
  Leaves Tryz.prog Tryz.f46 tmps (Post G R K) [{ target := .fn (.func 85) #[pt b 0], args := #[] }] .returning w := by
 refine leaves_cons (f := 85) (args := #[pt b 0]) (by simp) (by simp [go_sem]) ?_
 refine (catch_no hs).mono ?_
 rintro e u' w'' ⟨⟨v, rfl⟩, rfl, h⟩
 have hb := h.blk (i := 0) rfl
 have hc : w''.cell? ⟨b, 0, none⟩ = some (vI n) := by simp [World.cell?, hb]
 have ht' : tmps.getD 4 undef = pt b 0 := by simp [Array.getD_eq_getD_getElem?, ht]
 refine ⟨vI n, ?_, R, M, Le.refl _, hK, h.drop.drop⟩
 simp [results, Tryz.results46, ht, ht', go_sem, hc]
theorem read_panics {G : World} {R : PH} {M : List HP} {b : Nat} {x n : Int} {w : World} {tmps : Array Value} {K : Ending → PH → List HP → Prop} {q : HP}
  (ht : tmps[4]? = some (pt b 0)) (hs : St G R (Blk b (.cells (List.toArray [vI x]) 24 (0, 0)) :: q :: M) w) (hK : K (.returned (vI n)) R M) :
  Leaves Tryz.prog Tryz.f46 tmps (Post G R K) [{ target := .fn (.func 85) #[pt b 0], args := #[] }] (.panicking (pch 118 n)) w := by
 refine leaves_cons (f := 85) (args := #[pt b 0]) (by simp) (by simp [go_sem]) ?_
 refine (catch_pan (n := n) hs).mono ?_
 rintro e u' w'' ⟨⟨v, rfl⟩, rfl, h⟩
 have hb := h.blk (i := 0) rfl
 have hc : w''.cell? ⟨b, 0, none⟩ = some (vI n) := by simp [World.cell?, hb]
 have ht' : tmps.getD 4 undef = pt b 0 := by simp [Array.getD_eq_getD_getElem?, ht]
 refine ⟨vI n, ?_, R, M, Le.refl _, hK, h.drop.drop⟩
 simp [results, Tryz.results46, ht, ht', go_sem, hc]
theorem DC.okL {G : World} {R : PH} {A M : List HP} {F : List HP} {s s' : Str} {fc : Nat} {caps : List Value}
  (hc : Ca Tryz.prog fc)
  (h : ∀ b F, CO Tryz.prog fc (pt b 0 :: caps) G R (Blk b (.cells (List.toArray [vS s]) 120 (0, 0)) :: (A ++ F)) (PRet 118 (fun u R' L' => u = .tuple #[] ∧ R' = R ∧ L' = Blk b (.cells (List.toArray [vS s']) 120 (0, 0)) :: (M ++ F)) fun _ _ _ => False)) :
  CO Tryz.prog 46 [vS s, .func (.func fc) #[] caps.toArray] G R (A ++ F) (Ret fun u R' L' => u = vI (if s' == [] then 0 else 5) ∧ R' = R ∧ L' = M ++ F) := by
 intro w hs
 have hmf : ∀ (fn : Fn) (first cap : Array Value) (w : World), (Instr.makeFunc fn first cap).run Tryz.prog w = .ok (.func fn first cap) w := fun _ _ _ _ => rfl
 have hst : St G R (Blk (w.heap.size + 1) (.cells (List.toArray [vS s]) 120 (0, 0)) :: Blk w.heap.size (.cells (List.toArray [vI 0]) 24 (0, 0)) :: (A ++ F)) ((w.alloc (.cells #[Value.int .i64 0] 24)).alloc (.cells #[vS s] 120)) := by
  have h1 := hs.alloc (.cells #[Value.int .i64 0] 24)
  have h2 := h1.alloc (.cells #[vS s] 120)
  simpa [vI] using h2
 have hst2 := st_mid hst
 have hcall := h (w.heap.size + 1) _ _ hst2
 unfold vS at *
 go_enter_defers Tryz.func46, Tryz.ntmps46
 go_wp2
 rw [hc]
 simp only [Oper.upon]
 refine hcall.mono ?_
 rintro e w' ⟨R', L', hR, hq | ⟨n, rfl, hn⟩, hst'⟩
 case inr => exact hn.elim
 obtain ⟨v, rfl, rfl, rfl, rfl⟩ := hq
 have st3 := st_mid' hst'
 have hb0 := st3.blk (i := 0) rfl
 have hb1 := st3.blk (i := 1) rfl
 have hc1 : w'.cell? ⟨w.heap.size + 1, 0, none⟩ = some (.string ⟨s'.toArray⟩) := by simp [World.cell?, hb1]
 have hc0 : w'.cell? ⟨w.heap.size, 0, none⟩ = some (.int .i64 0) := by simp [World.cell?, hb0, vI]
 have hf0 : w'.frozen? ⟨w.heap.size, 0, none⟩ = false := by simp [World.frozen?, hb0]
 by_cases hs' : s' = []
 ·subst hs'
  go_wp2
  exact read_leaves rfl (st3.upd (upd_set hb0)) ⟨_, rfl, rfl, rfl, rfl⟩
 ·have hne : (s' == []) = false := by simpa using hs'
  have hie : s'.isEmpty = false := by simpa using hs'
  go_wp2
  all_goals first | exact read_leaves rfl (st3.upd (upd_set hb0)) ⟨_, rfl, by simp, rfl, rfl⟩ | exact read_leaves rfl (st3.upd (upd_set hb0)) ⟨_, rfl, by simp [hne], rfl, rfl⟩ | (exfalso; simp_all; done)
theorem DC.okR {G : World} {R : PH} {A M : List HP} {F : List HP} {s : Str} {cs : List Value} {n0 : Int} {fc : Nat} {caps : List Value}
  (hc : Ca Tryz.prog fc)
  (h : ∀ b F, CO Tryz.prog fc (pt b 0 :: caps) G R (Blk b (.cells (List.toArray [vS s]) 120 (0, 0)) :: (A ++ F)) (PRet 118 (fun _ _ _ => False) fun n R' L' => n = n0 ∧ R' = R ∧ L' = Blk b (.cells (List.toArray cs) 120 (0, 0)) :: (M ++ F))) :
  CO Tryz.prog 46 [vS s, .func (.func fc) #[] caps.toArray] G R (A ++ F) (Ret fun u R' L' => u = vI n0 ∧ R' = R ∧ L' = M ++ F) := by
 intro w hs
 have hmf : ∀ (fn : Fn) (first cap : Array Value) (w : World), (Instr.makeFunc fn first cap).run Tryz.prog w = .ok (.func fn first cap) w := fun _ _ _ _ => rfl
 have hst : St G R (Blk (w.heap.size + 1) (.cells (List.toArray [vS s]) 120 (0, 0)) :: Blk w.heap.size (.cells (List.toArray [vI 0]) 24 (0, 0)) :: (A ++ F)) ((w.alloc (.cells #[Value.int .i64 0] 24)).alloc (.cells #[vS s] 120)) := by
  have h1 := hs.alloc (.cells #[Value.int .i64 0] 24)
  have h2 := h1.alloc (.cells #[vS s] 120)
  simpa [vI] using h2
 have hst2 := st_mid hst
 have hcall := h (w.heap.size + 1) _ _ hst2
 unfold vS at *
 go_enter_defers Tryz.func46, Tryz.ntmps46
 go_wp2
 rw [hc]
 simp only [Oper.upon]
 refine hcall.mono ?_
 rintro e w' ⟨R', L', hR, ⟨v, rfl, hn⟩ | ⟨n, rfl, rfl, rfl, rfl⟩, hst'⟩
 case inl => exact hn.elim
 exact read_panics rfl (st_mid' hst') ⟨_, rfl, rfl, rfl, rfl⟩
structure AC where
 Kind : Int
 Key : Str
 deriving DecidableEq, Inhabited
def AC.c (x : AC) : List _root_.Go.Value := [vI x.Kind, vS x.Key]
abbrev AC.v (x : AC) : _root_.Go.Value := .agg (AC.c x).toArray
structure Ap where
 key : Str
 list : Int
 prev : Int
 next : Int
 deriving DecidableEq, Inhabited
def Ap.c (x : Ap) : List _root_.Go.Value := [vS x.key, vI x.list, vI x.prev, vI x.next]
abbrev Ap.v (x : Ap) : _root_.Go.Value := .agg (Ap.c x).toArray
structure Ae where
 lists : Int
 slots : List Ap
 free : List Int
 at_ : List (Str × Int)
 many : List Int
 deriving DecidableEq, Inhabited
structure Ae.G where
 slots : _root_.Go.Value
 free : _root_.Go.Value
 at_ : _root_.Go.Value
 many : _root_.Go.Value
instance : Inhabited Ae.G := ⟨⟨nl, nl, nl, nl⟩⟩
def Ae.fl (b : Nat) (x : Ae) (g : Ae.G) : List HP := [Bk b 138 [vI x.lists, g.slots, g.free, g.at_, g.many], OwS true 140 4 Ap.c g.slots x.slots, OwS true 3 1 eI g.free x.free, OwM vS vI g.at_ x.at_, OwS true 3 1 eI g.many x.many]
def Ae.op (g : Ae.G) : Nat → Ae → HP := fun b x => star (Ae.fl b x g)
structure Al where
 most : Int
 target : Int
 r : Option Ae
 deriving DecidableEq, Inhabited
structure Al.G where
 r : _root_.Go.Value × Ae.G
instance : Inhabited Al.G := ⟨⟨(nl, default)⟩⟩
def Al.fl (b : Nat) (x : Al) (g : Al.G) : List HP := [Bk b 86 [vI x.most, vI x.target, g.r.1], rO (Ae.op g.r.2) g.r.1 x.r]
def Al.op (g : Al.G) : Nat → Al → HP := fun b x => star (Al.fl b x g)
structure Aj where
 wide : Int
 seed : UInt64
 rows : List (List UInt8)
 door : List Bool
 added : Int
 deriving DecidableEq, Inhabited
structure Aj.G where
 rows : _root_.Go.Value × _root_.Go.Value × _root_.Go.Value × _root_.Go.Value
 door : _root_.Go.Value
instance : Inhabited Aj.G := ⟨⟨(nl, nl, nl, nl), nl⟩⟩
def Aj.fl (b : Nat) (x : Aj) (g : Aj.G) : List HP := [Bk b 143 [vI x.wide, vW x.seed, g.rows.1, g.rows.2.1, g.rows.2.2.1, g.rows.2.2.2, g.door, vI x.added], OwL (OwS false 5 1 eY) [g.rows.1, g.rows.2.1, g.rows.2.2.1, g.rows.2.2.2] x.rows, OwS true 4 1 eB g.door x.door]
def Aj.op (g : Aj.G) : Nat → Aj → HP := fun b x => star (Aj.fl b x g)
structure Ak where
 most : Int
 s : Option Aj
 r : Option Ae
 deriving DecidableEq, Inhabited
structure Ak.G where
 s : _root_.Go.Value × Aj.G
 r : _root_.Go.Value × Ae.G
instance : Inhabited Ak.G := ⟨⟨(nl, default), (nl, default)⟩⟩
def Ak.fl (b : Nat) (x : Ak) (g : Ak.G) : List HP := [Bk b 92 [vI x.most, g.s.1, g.r.1], rO (Aj.op g.s.2) g.s.1 x.s, rO (Ae.op g.r.2) g.r.1 x.r]
def Ak.op (g : Ak.G) : Nat → Ak → HP := fun b x => star (Ak.fl b x g)
structure Ab where
 kind : Int
 a : Option Al
 t : Option Ak
 deriving DecidableEq, Inhabited
structure Ab.G where
 a : _root_.Go.Value × Al.G
 t : _root_.Go.Value × Ak.G
instance : Inhabited Ab.G := ⟨⟨(nl, default), (nl, default)⟩⟩
def Ab.fl (b : Nat) (x : Ab) (g : Ab.G) : List HP := [Bk b 63 [vI x.kind, g.a.1, g.t.1], rO (Al.op g.a.2) g.a.1 x.a, rO (Ak.op g.t.2) g.t.1 x.t]
def Ab.op (g : Ab.G) : Nat → Ab → HP := fun b x => star (Ab.fl b x g)
structure Ac where
 L : List (List Str)
 Places : Int
 deriving DecidableEq, Inhabited
structure Ac.G where
 L : _root_.Go.Value × List _root_.Go.Value
instance : Inhabited Ac.G := ⟨⟨(nl, [])⟩⟩
def Ac.fl (b : Nat) (x : Ac) (g : Ac.G) : List HP := [Bk b 30 [g.L.1, vI x.Places], OwS true 57 1 eV g.L.1 g.L.2, OwL (OwS true 9 1 eS) g.L.2 x.L]
def Ac.op (g : Ac.G) : Nat → Ac → HP := fun b x => star (Ac.fl b x g)
def Ac.ro (R : PH) (x : Ac) (g : Ac.G) : Prop := RoN R g.L.1 1 (fun x => [vS x]) x.L
structure Aa where
 Most : Int
 Target : Int
 R : Ac
 deriving DecidableEq, Inhabited
structure Aa.G where
 R : Ac.G
instance : Inhabited Aa.G := ⟨⟨default⟩⟩
def Aa.fl (b : Nat) (x : Aa) (g : Aa.G) : List HP := [Bk b 32 [vI x.Most, vI x.Target, g.R.L.1, vI x.R.Places], OwS true 57 1 eV g.R.L.1 g.R.L.2, OwL (OwS true 9 1 eS) g.R.L.2 x.R.L]
def Aa.op (g : Aa.G) : Nat → Aa → HP := fun b x => star (Aa.fl b x g)
def Aa.ro (R : PH) (x : Aa) (g : Aa.G) : Prop := Ac.ro R x.R g.R
structure Af where
 Wide : Int
 Seed : UInt64
 Rows : List (List Int)
 Door : List Bool
 Added : Int
 deriving DecidableEq, Inhabited
structure Af.G where
 Rows : _root_.Go.Value × List _root_.Go.Value
 Door : _root_.Go.Value
instance : Inhabited Af.G := ⟨⟨(nl, []), nl⟩⟩
def Af.fl (b : Nat) (x : Af) (g : Af.G) : List HP := [Bk b 36 [vI x.Wide, vW x.Seed, g.Rows.1, g.Door, vI x.Added], OwS true 135 1 eV g.Rows.1 g.Rows.2, OwL (OwS true 3 1 eI) g.Rows.2 x.Rows, OwS true 4 1 eB g.Door x.Door]
def Af.op (g : Af.G) : Nat → Af → HP := fun b x => star (Af.fl b x g)
def Af.ro (R : PH) (x : Af) (g : Af.G) : Prop := (RoN R g.Rows.1 1 (fun x => [vI x]) x.Rows) ∧ (RoS R g.Door 1 (fun x => [vB x]) x.Door)
structure Ad where
 Most : Int
 S : Af
 R : Ac
 deriving DecidableEq, Inhabited
structure Ad.G where
 S : Af.G
 R : Ac.G
instance : Inhabited Ad.G := ⟨⟨default, default⟩⟩
def Ad.fl (b : Nat) (x : Ad) (g : Ad.G) : List HP := [Bk b 38 [vI x.Most, vI x.S.Wide, vW x.S.Seed, g.S.Rows.1, g.S.Door, vI x.S.Added, g.R.L.1, vI x.R.Places], OwS true 135 1 eV g.S.Rows.1 g.S.Rows.2, OwL (OwS true 3 1 eI) g.S.Rows.2 x.S.Rows, OwS true 4 1 eB g.S.Door x.S.Door, OwS true 57 1 eV g.R.L.1 g.R.L.2, OwL (OwS true 9 1 eS) g.R.L.2 x.R.L]
def Ad.op (g : Ad.G) : Nat → Ad → HP := fun b x => star (Ad.fl b x g)
def Ad.ro (R : PH) (x : Ad) (g : Ad.G) : Prop := (Af.ro R x.S g.S) ∧ (Ac.ro R x.R g.R)
structure Ah where
 Kind : Int
 A : Aa
 T : Ad
 deriving DecidableEq, Inhabited
structure Ah.G where
 A : Aa.G
 T : Ad.G
instance : Inhabited Ah.G := ⟨⟨default, default⟩⟩
def Ah.fl (b : Nat) (x : Ah) (g : Ah.G) : List HP := [Bk b 40 [vI x.Kind, vI x.A.Most, vI x.A.Target, g.A.R.L.1, vI x.A.R.Places, vI x.T.Most, vI x.T.S.Wide, vW x.T.S.Seed, g.T.S.Rows.1, g.T.S.Door, vI x.T.S.Added, g.T.R.L.1, vI x.T.R.Places], OwS true 57 1 eV g.A.R.L.1 g.A.R.L.2, OwL (OwS true 9 1 eS) g.A.R.L.2 x.A.R.L, OwS true 135 1 eV g.T.S.Rows.1 g.T.S.Rows.2, OwL (OwS true 3 1 eI) g.T.S.Rows.2 x.T.S.Rows, OwS true 4 1 eB g.T.S.Door x.T.S.Door, OwS true 57 1 eV g.T.R.L.1 g.T.R.L.2, OwL (OwS true 9 1 eS) g.T.R.L.2 x.T.R.L]
def Ah.op (g : Ah.G) : Nat → Ah → HP := fun b x => star (Ah.fl b x g)
def Ah.ro (R : PH) (x : Ah) (g : Ah.G) : Prop := (Aa.ro R x.A g.A) ∧ (Ad.ro R x.T g.T)
structure C7 where
 Window : Int
 Protected : Int
 deriving DecidableEq, Inhabited
def C7.c (x : C7) : List _root_.Go.Value := [vI x.Window, vI x.Protected]
abbrev C7.v (x : C7) : _root_.Go.Value := .agg (C7.c x).toArray
structure Ai where
 s : Str
 deriving DecidableEq, Inhabited
def Ai.c (x : Ai) : List _root_.Go.Value := [vS x.s]
abbrev Ai.v (x : Ai) : _root_.Go.Value := .agg (Ai.c x).toArray
structure Dz where
 e : Int
 deriving DecidableEq, Inhabited
def Dz.c (x : Dz) : List _root_.Go.Value := [vI x.e]
abbrev Dz.v (x : Dz) : _root_.Go.Value := .agg (Dz.c x).toArray
def mk0_ : List Nat := [0, 0, 0, 0, 12, 0, 60, 125, 255, 511]
def mk1_ : List Nat := [0, 0, 0, 0, 12, 0, 60, 29, 159, 511]
def mk2_ : List Nat := [0, 0, 0, 0, 12, 28, 1, 65, 255, 511]
def mk3_ : List Nat := [0, 0, 0, 0, 12, 28, 60, 60, 252, 508, 61, 1087, 4095]
def mk4_ : List Nat := [0, 0, 0, 0, 12, 28, 63, 127, 255, 255, 255, 511, 3071]
def mk5_ : List Nat := [0, 0, 0, 4, 0, 0, 48, 112, 255, 511, 1023]
def mk6_ : List Nat := [0, 0, 0, 4, 1, 17, 63, 127]
def mk7_ : List Nat := [0, 0, 0, 4, 12, 28, 60, 124, 254, 510, 1022, 2046, 1022, 5118, 16382, 1022, 33790, 99326, 230398, 524286, 1048574, 2097150, 4194302, 8388606, 4194302, 20971518, 67108862, 4194302, 138412030, 406847486, 943718398, 2147483646, 4294967294, 8589934590, 17179869182, 17179869182, 51539607550, 120259084286, 257698037758, 532575944702, 1099511627774, 17179869182, 2216203124734, 6614249635838, 15410342658046, 33002528702462, 70368744177662, 140737488355326, 281474976710654, 562949953421310, 1125899906842622, 2251799813685246, 4503599627370494, 9007199254740990, 18014398509481982, 36028797018963966, 72057594037927935]
def mk8_ : List Nat := [0, 0, 2, 6, 14, 0, 0, 96, 224, 510, 1022, 2047, 4095, 8191]
def mk9_ : List Nat := [0, 0, 2, 6, 14, 0, 32, 96, 224, 0, 0, 1536, 3584, 8160, 16382, 32767, 65535, 131071]
def mk10_ : List Nat := [0, 0, 2, 6, 14, 0, 62, 126, 254, 510, 1023, 2047]
def mk11_ : List Nat := [0, 0, 2, 6, 14, 30, 0, 64, 192, 448, 1022, 2046, 4095]
def mk12_ : List Nat := [0, 0, 2, 6, 14, 30, 62, 126, 254, 510, 1022, 2046, 4094, 254, 16382, 32766, 254, 65790, 196862, 459006, 983294, 2097150, 4194302, 8388606, 16777214, 33554430, 16777214, 83886078, 218103806, 486539262, 1073741822, 2147483646, 4294967294, 8589934590, 17179869182, 34359738366, 68719476734, 137438953470, 8589934590, 283467841534, 1099511627774, 2199023255550, 4398046511102, 8796093022206, 17592186044414, 35184372088830, 70368744177662, 140737488355326, 8796093022206, 290271069732862, 1125899906842622, 2251799813685246, 4503599627370495]
def mk13_ : List Nat := [0, 0, 2, 6, 14, 31, 63, 127, 255, 511, 1023, 2047, 127, 4223, 12415, 28799, 65535, 131071, 262143]
def mk14_ : List Nat := [0, 0, 2, 6, 14, 31, 63, 127]
def mk15_ : List Nat := [0, 0, 2, 7, 15, 31, 63, 31, 159, 511, 1023, 2047]
def mk16_ : List Nat := [0, 1, 0, 0, 8, 0, 32, 0, 224, 480, 1016, 2047, 4095]
def mk17_ : List Nat := [0, 1, 0, 4, 12, 31, 63, 127]
def mk18_ : List Nat := [0, 1, 0, 7, 15, 0, 0, 64, 0, 448, 960, 0, 4032, 8128, 16320, 32767, 65535]
def mk19_ : List Nat := [0, 1, 0, 7, 15, 0, 32, 0, 224, 480, 1023]
def mk20_ : List Nat := [0, 1, 3, 7, 0, 0, 32, 127, 255]
def mk21_ : List Nat := [0, 1, 3, 7, 0, 16, 48, 112, 0, 256, 768, 1792, 0, 0, 0, 12287, 45055, 110591, 262143, 524287, 1048575]
def mk22_ : List Nat := [0, 1, 3, 7, 0, 16, 48, 112, 0, 256, 768, 1792, 0, 4096, 12288, 28672, 0, 65536, 196608, 458752, 0, 1048576, 3145728, 7340032, 16777215, 33554431, 67108863, 134217727, 268435455, 536870911]
def mk23_ : List Nat := [0, 1, 3, 7, 0, 16, 48, 112, 255, 511, 1023, 2047, 4095]
def mk24_ : List Nat := [0, 1, 3, 7, 15, 0, 32, 96, 224, 511, 1023, 2047]
def mk25_ : List Nat := [0, 1, 3, 7, 15, 31, 0, 64, 192, 448, 960, 0, 2048, 6144, 14336, 32704, 65472, 131071, 262143, 0, 1048575]
def mk26_ : List Nat := [0, 1, 3, 7, 15, 31, 15, 79, 255, 511, 1023, 2047, 4095, 8191, 4095, 20479, 65535, 131071, 262143, 524287, 1048575, 2097151, 4194303, 8388607, 16777215]
def mk27_ : List Nat := [0, 1, 3, 7, 15, 31, 3, 127, 3, 259, 771, 1795, 3, 8191, 16383, 32767]
def mk28_ : List Nat := [0, 1, 3, 7, 3, 31, 3, 67, 3, 511, 1023, 2047]
def mk29_ : List Nat := [0, 1, 3, 7, 7, 23, 55, 127, 255, 511, 1023, 2047, 4095, 8191, 16383, 32767, 65535, 131071, 262143, 524287, 262143, 1310719, 4194303, 8388607, 16777215]
abbrev Ah.k (x : Ah) (g : Ah.G) : List Value := [vI x.Kind, vI x.A.Most, vI x.A.Target, g.A.R.L.1, vI x.A.R.Places, vI x.T.Most, vI x.T.S.Wide, vW x.T.S.Seed, g.T.S.Rows.1, g.T.S.Door, vI x.T.S.Added, g.T.R.L.1, vI x.T.R.Places]
abbrev Ad.k (x : Ad) (g : Ad.G) : List Value := [vI x.Most, vI x.S.Wide, vW x.S.Seed, g.S.Rows.1, g.S.Door, vI x.S.Added, g.R.L.1, vI x.R.Places]
abbrev Aj.k (x : Aj) (g : Aj.G) : List Value := [vI x.wide, vW x.seed, g.rows.1, g.rows.2.1, g.rows.2.2.1, g.rows.2.2.2, g.door, vI x.added]
abbrev Af.k (x : Af) (g : Af.G) : List Value := [vI x.Wide, vW x.Seed, g.Rows.1, g.Door, vI x.Added]
abbrev Aa.k (x : Aa) (g : Aa.G) : List Value := [vI x.Most, vI x.Target, g.R.L.1, vI x.R.Places]
abbrev Ae.k (x : Ae) (g : Ae.G) : List Value := [vI x.lists, g.slots, g.free, g.at_, g.many]
def CV  : Nat → UInt64 → Str → Option (UInt64 × Str)
 | 0, _, _ => none
 | k9 + 1, n_7, c_8 => if decide (128 ≤ n_7) then (apd 1 c_8 [((n_7 % 128).toUInt8) + 128]).bind fun l14 => CV k9 (n_7 / 128) l14 else some (n_7, c_8)
def A4 (a0 : UInt64) : Option Str :=
 Option.bind (CV 11 a0 []) fun p1 => (apd 1 p1.2 [p1.1.toUInt8]).bind fun l5 => some l5
theorem A4.ok {G R F} (a0 : UInt64) (r : Str) (hm : A4 a0 = some r) : CO Tryz.prog 41 [vW a0] G R (F)
  (Ret fun u R' L' => u = vS r ∧ R' = R ∧ L' = F) := by
 unfold A4 at hm
 refine co_ofN (N := 17) Tryz.func41 z z ?_
 refine csr ?_
 refine r_as z ?_
 refine nsr ?_
 refine r_new (o_al ze113) fun b0 => ?_
 refine rl_st (fun _ h => bld_new (e := 5) h) ?_
 refine r_nil (x_seq (c_seq ?_))
 obtain ⟨p1, hp2, hm3⟩ := bs hm
 refine cd_join (E' := [(3, pt b0 0), (0, vW p1.1)]) (L' := Bld 113 5 b0 p1.2 :: F) ?_ fun K4 => ?_
 ·refine x_seq (csr ?_)
  refine r_mv z (r_u (o_cv z (cWY Tryz.underlying27 Tryz.underlying5 p1.1)) ?_)
  obtain ⟨l5, hl5, hm6⟩ := bs hm3
  clear hm3
  refine r_c (s_w (o_call ca78 z (bld_WriteByte.ok b0 p1.2 p1.1.toUInt8 _ hl5))) ?_
  refine nsr ?_
  refine r_c (s_w (o_call ca79 z (bld_String.ok b0 l5))) ?_
  refine r_as z ?_
  refine r_nil (x_seq (c_ret ?_))
  obtain rfl := si hm6
  exact x_r1 z (rv_t z) (Le.refl _) ⟨_, z, z, z, z⟩
 refine c_blk ?_
 refine cd_loop (M := fun k9 (s : UInt64 × Str) => CV k9 s.1 s.2 = some p1) (Ef := fun (s : UInt64 × Str) => [(3, pt b0 0), (0, vW s.1)]) (Lf := fun (s : UInt64 × Str) => Bld 113 5 b0 s.2 :: F) 11 (a0, []) hp2 ⟨z, z, trivial⟩ (fun _ h => h) (fun _ h => by cases h) fun k9 s hM11 => ?_
 obtain ⟨n_7, c_8⟩ := s
 have hm10 : CV (k9 + 1) n_7 c_8 = some p1 := hM11
 rw [CV] at hm10
 refine c_seq (csr ?_)
 refine r_mv z (r_bin z z (bW_ge n_7 128) ?_)
 refine nsq ?_
 refine c_if (b := decide (128 ≤ n_7)) z (fun h12 => ?_) fun h12 => ?_
 ·have hm13 := ift hm10 h12
  clear hm10
  refine c_skip (x_seq (c_seq (c_blk (c_reg ?_))))
  refine r_mv z (r_bin z z (bW_rem n_7 128 (by decide)) (r_u (o_cv z (cWY Tryz.underlying27 Tryz.underlying5 (n_7 % 128))) (r_bin z z (bY_add ((n_7 % 128).toUInt8) 128) ?_)))
  obtain ⟨l14, hl14, hm15⟩ := bs hm13
  clear hm13
  refine r_c (s_w (o_call ca78 z (bld_WriteByte.ok b0 c_8 (((n_7 % 128).toUInt8) + 128) _ hl14))) ?_
  refine r_nil (x_blk (x_seq (c_reg ?_)))
  refine r_mv z (r_bin z z (bW_quo n_7 128 (by decide)) (r_as z ?_))
  refine r_nil ?_
  exact x_lp (n_7 / 128, l14) hm15 ⟨z, z, trivial⟩ (fun _ h => st_pk 1 [0] (by decide) h)
 have hm13 := iff_ hm10 h12
 clear hm10
 refine c_exit (x_exit (ks' := _) z ?_)
 obtain rfl := si hm13
 exact x_sub K4 ⟨z, z, trivial⟩ (fun _ h => st_pk 1 [0] (by decide) h)
def Dn (a0 : Str) : Option Str :=
 (A4 (toW (a0.length : Int))).bind fun r0 => if r0.length + a0.length ≤ maxS then some (r0 ++ a0) else none
theorem Dn.ok {G R F} (a0 : Str) (r : Str) (hm : Dn a0 = some r) : CO Tryz.prog 112 [vS a0] G R (F)
  (Ret fun u R' L' => u = vS r ∧ R' = R ∧ L' = F) := by
 unfold Dn at hm
 refine co_ofN (N := 9) Tryz.func112 z z ?_
 refine csr ?_
 refine r_as z ?_
 refine nsr ?_
 refine r_mv z (r_u (o_lenS Tryz.underlying9 z) (r_u (o_cv z (cIW Tryz.underlying3 Tryz.underlying27 (a0.length : Int))) ?_))
 obtain ⟨r0, hr0, hm1⟩ := bs hm
 clear hm
 refine r_u (o_callq ca41 z (A4.ok (toW (a0.length : Int)) r0 hr0)) (r_mv z ?_)
 obtain ⟨h2, hm3⟩ := ig hm1
 clear hm1
 refine r_bin z z (bS_add r0 a0 h2) (r_as z ?_)
 refine r_nil (x_seq (c_ret ?_))
 obtain rfl := si hm3
 exact x_r1 z (rv_t z) (Le.refl _) ⟨_, z, z, z, z⟩
def De (a0 : Int) : Nat → Int → (List Int) → Option (List Int)
 | 0, _, _ => none
 | k28 + 1, i_25, c_26 => if decide (0 ≤ i_25) then (apd 8 c_26 [i64 (a0 + i_25)]).bind fun l35 => De a0 k28 (i64 (i_25 - 1)) l35 else some c_26
def Dg (a0 : Int) : Nat → Int → (List Ap) → Option (List Ap)
 | 0, _, _ => none
 | k39 + 1, s_37, c_38 => if decide (s_37 < a0) then (gi c_38 s_37).bind fun x44 => Dg a0 k39 (i64 (s_37 + 1)) (ls c_38 s_37 (⟨[], s_37, s_37, s_37⟩ : Ap)) else some c_38
def C0 (a0 : Int) (a1 : Int) : Option (Option Ae × Int) :=
 if (((decide (a0 < 1) || decide (8 < a0)) || decide (a1 < 0)) || decide (4096 < a1)) then some (none, 1) else (mks 8 a0 (0 : Int)).bind fun l11 => (mks 40 (i64 (a0 + a1)) ((⟨[], 0, 0, 0⟩ : Ap) : Ap)).bind fun l13 => Option.bind (Dg a0 ((a0 - 0).toNat + 1) 0 l13) fun p16 => Option.bind (De a0 (((i64 (a1 - 1)) + 1).toNat + 1) (i64 (a1 - 1)) []) fun p20 => some ((some (⟨a0, p16, p20, [], l11⟩ : Ae)), 0)
theorem C0.ok {G R F} (a0 : Int) (a1 : Int) (r : Option Ae × Int) (hm : C0 a0 a1 = some r) : CO Tryz.prog 58 [vI a0, vI a1] G R (F)
  (Ret fun u R' L' => ∃ (p0 : Value × Ae.G), u = .tuple #[p0.1, vI r.2] ∧ R' = R ∧ L' = rO (Ae.op p0.2) p0.1 r.1 :: F) := by
 unfold C0 at hm
 refine co_ofN (N := 67) Tryz.func58 z z ?_
 refine csr ?_
 refine r_as z (r_as z ?_)
 refine nssr ?_
 refine r_mv z (r_bin z z (bI_lt a0 1) (r_mv z ?_))
 refine r_s (s_gf z z fun g => o_mv z) ?_
 refine r_s (s_gf z z fun g => o_bin (evg z g) z (bI_gt a0 8)) ?_
 refine r_u (o_or z z) (r_mv z ?_)
 refine r_s (s_gf z z fun g => o_mv z) ?_
 refine r_s (s_gf z z fun g => o_bin (evg z g) z (bI_lt a1 0)) ?_
 refine r_u (o_or z z) (r_mv z ?_)
 refine r_s (s_gf z z fun g => o_mv z) ?_
 refine r_s (s_gf z z fun g => o_bin (evg z g) z (bI_gt a1 4096)) ?_
 refine r_u (o_or z z) ?_
 refine nsq ?_
 refine c_if (b := (((decide (a0 < 1) || decide (8 < a0)) || decide (a1 < 0)) || decide (4096 < a1))) z (fun h0 => ?_) fun h0 => ?_
 ·have hm1 := ift hm h0
  clear hm
  refine csr ?_
  refine r_as z (r_as z ?_)
  refine r_nil (x_seq (c_ret ?_))
  refine ex_st (fun _ h => st_none (f := Ae.op default) h) ?_
  obtain rfl := si hm1
  exact x_r2 z (rv_t z) (rv_t z) (Le.refl _) ⟨_, z, (nl, default), z, z, z⟩
 have hm1 := iff_ hm h0
 clear hm
 refine c_skip (x_seq (c_seq ?_))
 obtain ⟨l11, hl11, hm12⟩ := bs hm1
 clear hm1
 obtain ⟨l13, hl13, hm14⟩ := bs hm12
 clear hm12
 refine c_anyF mixed (effs := [9]) (fr := [(1, fun u => OwM vS vI u []), (3, fun u => OwS true 3 1 eI u l11), (7, fun u => OwS true 140 4 Ap.c u l13)]) (V := []) z ?_
 refine stageF_ext [(0, vI a0), (2, vI a0), (4, vI a0), (5, vI a1), (6, vI (i64 (a0 + a1)))] z ?_
 refine stageG z z z z z z mk5_ [0, 2, 4, 5, 6] [] (by kernel_rfl) (by kernel_rfl) (by kernel_rfl) (by kernel_rfl) (tc z z (fun A => s_u (o_mv z)) (tc z z (fun A => s_u (o_mv z)) (tc z z (fun A => s_u (o_mv z)) (tc z z (fun A => s_u (o_mv z)) (tc z z (fun A => s_u (o_bin z z (bI_add a0 a1))) tn))))) (fcons z (fun A => s_w (o_mm (kv := vS) (vv := vI))) (fcons z (fun A => s_w (o_mk (sz := 1) (bytes := 8) (e := 3) (en := eI) Tryz.underlying135 z z z z z z z z z hl11)) (fcons z (fun A => s_w (o_mk (sz := 4) (bytes := 40) (e := 140) (en := Ap.c) Tryz.underlying136 z z z z z z z z z hl13)) fnil))) etn fun bt10 => ?_
 refine stage_ext [(8, .agg [vI a0, (bt10 7), .slice none 0 0, (bt10 1), (bt10 3)].toArray)] z ?_
 refine stage z z z z mk5_ [0, 8] [9] (by kernel_rfl) (by kernel_rfl) (by kernel_rfl) (q_mv z z z (q_u z z (ou_if (hd_m 0 z) fun hb0 => ou_if (hd_o 1 z) fun hb1 => ou_if (hd_o 2 z) fun hb2 => o_bld [vI a0, (bt10 7), .slice none 0 0, (bt10 1), (bt10 3)] z (fun _ => by obtain ⟨_, he0⟩ := hb0; rw [he0]; obtain ⟨_, _, he1⟩ := hb1; rw [he1]; obtain ⟨_, _, he2⟩ := hb2; rw [he2]; kernel_rfl)) qn)) ?_ (fun h => absurd (show false = true from h) (by decide))
 refine ec (eo_n z (s_w (o_bx [vI a0, (bt10 7), .slice none 0 0, (bt10 1), (bt10 3)] z z)) fun b15 => ?_) en
 refine stage_ext [(10, pt b15 0)] z ?_
 refine stage z z z z mk5_ [10] [] (by kernel_rfl) (by kernel_rfl) (by kernel_rfl) (q_u z z (o_as z) qn) en ?_
 intro _
 refine ex_sub (E' := [(0, vI a0), (1, vI a1), (6, pt b15 0)]) ⟨z, z, z, trivial⟩ ?_
 refine x_seq (c_seq (csr ?_))
 refine r_mv z (r_mv z ?_)
 refine nsq ?_
 obtain ⟨p16, hp17, hm18⟩ := bs hm14
 refine cd_join (E' := [(0, vI a0), (1, vI a1), (6, pt b15 0)]) (L' := Bk b15 138 [vI a0, (bt10 7), .slice none 0 0, (bt10 1), (bt10 3)] :: OwM vS vI (bt10 1) [] :: OwS true 3 1 eI (bt10 3) l11 :: OwS true 140 4 Ap.c (bt10 7) p16 :: F) ?_ fun K19 => ?_
 rotate_left
 ·refine c_blk ?_
  refine cd_loop (M := fun k39 (s : Int × List Ap) => Dg a0 k39 s.1 s.2 = some p16) (Ef := fun (s : Int × List Ap) => [(0, vI a0), (1, vI a1), (6, pt b15 0), (33, vI a0), (34, vI s.1)]) (Lf := fun (s : Int × List Ap) => Bk b15 138 [vI a0, (bt10 7), .slice none 0 0, (bt10 1), (bt10 3)] :: OwM vS vI (bt10 1) [] :: OwS true 3 1 eI (bt10 3) l11 :: OwS true 140 4 Ap.c (bt10 7) s.2 :: F) ((a0 - 0).toNat + 1) (0, l13) hp17 ⟨z, z, z, z, z, trivial⟩ (fun _ h => h) (fun _ h => by cases h) fun k39 s hM41 => ?_
  obtain ⟨s_37, c_38⟩ := s
  have hm40 : Dg a0 (k39 + 1) s_37 c_38 = some p16 := hM41
  rw [Dg] at hm40
  refine csr ?_
  refine r_bin z z (bI_lt s_37 a0) ?_
  refine r_nil (x_seq (c_seq ?_))
  refine c_if (b := decide (s_37 < a0)) z (fun h42 => ?_) fun h42 => ?_
  rotate_left
  ·have hm43 := iff_ hm40 h42
   clear hm40
   refine c_exit (x_exit (ks' := _) z ?_)
   obtain rfl := si hm43
   exact x_sub K19 ⟨z, z, z, trivial⟩ (fun _ h => st_pk 4 [0, 1, 2, 3] (by decide) h)
  have hm43 := ift hm40 h42
  clear hm40
  refine c_skip (x_seq (c_seq (c_blk (csr ?_))))
  refine r_mv z (r_as z ?_)
  refine r_nil (x_seq (c_reg ?_))
  refine r_mv z (r_nc z (r_fa fa138_1 z (r_ld 0 sc136 z z z (r_mv z (r_mv z (r_mv z (r_mv z ?_)))))))
  refine r_u (o_bld [vS [], vI s_37, vI s_37, vI s_37] z (fun _ => by kernel_rfl)) ?_
  obtain ⟨x44, hx44, hm45⟩ := bs hm43
  clear hm43
  refine r_u (o_ixO 3 Tryz.underlying136 (fun _ => by kernel_rfl) z z z hx44) ?_
  refine rl_st (fun _ h => mv3 h) ?_
  refine r_u0 (o_stnO (c' := (⟨[], s_37, s_37, s_37⟩ : Ap)) ag140 z z z hx44 z z z) ?_
  refine r_nil (x_blk (x_seq (c_reg ?_)))
  refine r_bin z z (bI_add s_37 1) (r_mv z ?_)
  refine r_nil ?_
  exact x_lp (i64 (s_37 + 1), ls c_38 s_37 (⟨[], s_37, s_37, s_37⟩ : Ap)) hm45 ⟨z, z, z, z, z, trivial⟩ (fun _ h => st_pk 4 [1, 2, 3, 0] (by decide) h)
 refine x_seq (c_seq (csr ?_))
 refine r_mv z (r_bin z z (bI_sub a1 1) (r_as z ?_))
 refine nsq ?_
 obtain ⟨p20, hp22, hm23⟩ := bs hm18
 refine cd_cut (fun x ks => ∀ (g21 : Value), EX x .normal ks [(6, pt b15 0)] R (Bk b15 138 [vI a0, (bt10 7), g21, (bt10 1), (bt10 3)] :: OwM vS vI (bt10 1) [] :: OwS true 3 1 eI (bt10 3) l11 :: OwS true 140 4 Ap.c (bt10 7) p16 :: OwS true 3 1 eI g21 p20 :: F)) ?_ fun K24 => ?_
 ·intro g21
  refine x_seq (csr ?_)
  refine r_mv z (r_as z (r_as z ?_))
  refine r_nil (x_seq (c_ret ?_))
  refine ex_st (fun _ h => mv4 (mv4 (mv4 (mv2 (mv2 h))))) ?_
  refine ex_st (fun _ h => st_some (f := Ae.op (⟨(bt10 7), g21, (bt10 1), (bt10 3)⟩ : Ae.G)) (a := (⟨a0, p16, p20, [], l11⟩ : Ae)) (st_star_f (A := Ae.fl b15 (⟨a0, p16, p20, [], l11⟩ : Ae) (⟨(bt10 7), g21, (bt10 1), (bt10 3)⟩ : Ae.G)) h)) ?_
  obtain rfl := si hm23
  exact x_r2 z (rv_t z) (rv_t z) (Le.refl _) ⟨_, z, (pt b15 0, (⟨(bt10 7), g21, (bt10 1), (bt10 3)⟩ : Ae.G)), z, z, z⟩
 refine c_blk ?_
 refine cd_st (fun _ h => st_nil (ap := true) (T := 3) (sz := 1) (en := eI) h) ?_
 refine cd_loopG (M := fun k28 (s : Int × List Int × Value) => De a0 k28 s.1 s.2.1 = some p20) (Ef := fun (s : Int × List Int × Value) => [(0, vI a0), (6, pt b15 0), (8, vI s.1)]) (Rf := fun (s : Int × List Int × Value) => R) (Lf := fun (s : Int × List Int × Value) => Bk b15 138 [vI a0, (bt10 7), s.2.2, (bt10 1), (bt10 3)] :: OwM vS vI (bt10 1) [] :: OwS true 3 1 eI (bt10 3) l11 :: OwS true 140 4 Ap.c (bt10 7) p16 :: OwS true 3 1 eI s.2.2 s.2.1 :: F) (((i64 (a1 - 1)) + 1).toNat + 1) (i64 (a1 - 1), [], .slice none 0 0) hp22 ⟨z, z, z, trivial⟩ (fun _ h => st_pk 5 [1, 2, 3, 4, 0] (by decide) h) (fun _ h => by cases h) fun k28 s hM30 => ?_
 obtain ⟨i_25, c_26, g27⟩ := s
 have hm29 : De a0 (k28 + 1) i_25 c_26 = some p20 := hM30
 rw [De] at hm29
 refine c_seq (csr ?_)
 refine r_mv z (r_bin z z (bI_ge i_25 0) ?_)
 refine nsq ?_
 refine c_if (b := decide (0 ≤ i_25)) z (fun h31 => ?_) fun h31 => ?_
 rotate_left
 ·have hm32 := iff_ hm29 h31
  clear hm29
  refine c_exit (x_exit (ks' := _) z ?_)
  obtain rfl := si hm32
  exact x_sub (K24 g27) ⟨z, trivial⟩ (fun _ h => st_pk 5 [0, 1, 2, 3, 4] (by decide) h)
 have hm32 := ift hm29 h31
 clear hm29
 refine c_skip (x_seq (c_seq (c_blk (c_reg ?_))))
 refine r_mv z (r_mv z (r_nc z (r_fa fa138_2 z (r_ld 0 sc135 z z z (r_mv z (r_mv z (r_bin z z (bI_add a0 i_25) ?_)))))))
 refine r_sw (s_w (o_bsl (en := eI) (sz := 1) (e := 3) (cs := [vI (i64 (a0 + i_25))]) (r := [i64 (a0 + i_25)]) z (fun _ => by kernel_rfl) z (by decide) z (fun _ => z))) ?_
 rintro v33 R _ _ ⟨rfl, rfl⟩
 obtain ⟨l35, hl35, hm36⟩ := bs hm32
 clear hm32
 refine rl_st (fun _ h => mv5 h) ?_
 refine r_sw (s_w (o_ap (sz := 1) (bytes := 8) 0 Tryz.underlying135 z z z z z (by decide) (by decide) (fun _ _ _ h => by simp at h; subst h; rfl) (fun _ => z) z z z z (Nat.succ_pos _) hl35)) ?_
 rintro v34 R _ _ ⟨rfl, rfl⟩
 refine r_nc z (r_fa fa138_2 z ?_)
 refine rl_st (fun _ h => mv2 h) ?_
 refine r_u0 (ou_if (one_o 1 z) fun ho0 => o_st sc135 z z z ho0 z z) ?_
 refine r_nil (x_blk (x_seq (c_reg ?_)))
 refine r_mv z (r_bin z z (bI_sub i_25 1) (r_as z ?_))
 refine r_nil ?_
 exact x_lp (i64 (i_25 - 1), l35, v34) hm36 ⟨z, z, z, trivial⟩ (fun _ h => st_pk 6 [0, 3, 4, 5, 1] (by decide) h)
def Dy (a0 : Int) : Option (Option Al × Int) :=
 if (decide (a0 < 1) || decide (1000 < a0)) then some (none, 1) else (C0 4 (i64 ((i64 (2 * a0)) + 1))).bind fun r2 => some ((some (⟨a0, 0, r2.1⟩ : Al)), r2.2)
theorem Dy.ok {G R F} (a0 : Int) (r : Option Al × Int) (hm : Dy a0 = some r) : CO Tryz.prog 24 [vI a0] G R (F)
  (Ret fun u R' L' => ∃ (p0 : Value × Al.G), u = .tuple #[p0.1, vI r.2] ∧ R' = R ∧ L' = rO (Al.op p0.2) p0.1 r.1 :: F) := by
 unfold Dy at hm
 refine co_ofN (N := 24) Tryz.func24 z z ?_
 refine csr ?_
 refine r_as z (r_as z ?_)
 refine nssr ?_
 refine r_mv z (r_bin z z (bI_lt a0 1) (r_mv z ?_))
 refine r_s (s_gf z z fun g => o_mv z) ?_
 refine r_s (s_gf z z fun g => o_bin (evg z g) z (bI_gt a0 1000)) ?_
 refine r_u (o_or z z) ?_
 refine nsq ?_
 refine c_if (b := (decide (a0 < 1) || decide (1000 < a0))) z (fun h0 => ?_) fun h0 => ?_
 ·have hm1 := ift hm h0
  clear hm
  refine csr ?_
  refine r_as z (r_as z ?_)
  refine r_nil (x_seq (c_ret ?_))
  refine ex_st (fun _ h => st_none (f := Al.op default) h) ?_
  obtain rfl := si hm1
  exact x_r2 z (rv_t z) (rv_t z) (Le.refl _) ⟨_, z, (nl, default), z, z, z⟩
 have hm1 := iff_ hm h0
 clear hm
 refine c_skip (x_seq (csr ?_))
 refine r_mv z (r_bin z z (bI_mul 2 a0) (r_bin z z (bI_add (i64 (2 * a0)) 1) ?_))
 obtain ⟨r2, hr2, hm6⟩ := bs hm1
 clear hm1
 refine r_sw (s_w (o_call ca58 z (C0.ok 4 (i64 ((i64 (2 * a0)) + 1)) r2 hr2))) ?_
 rintro _ R _ _ ⟨⟨pv4, g5⟩, rfl, rfl, rfl⟩
 refine r_mv z ?_
 refine r_ext z z ?_
 refine r_ext z z (r_as z (r_as z ?_))
 refine nsr ?_
 refine r_mv z (r_mv z ?_)
 refine r_u (ou_if (hd_p 0 z) fun hb0 => o_bld [vI a0, vI 0, pv4] z (fun _ => by obtain ⟨_, rfl⟩ := hb0; kernel_rfl)) ?_
 refine r_new (o_bx [vI a0, vI 0, pv4] z z) fun b7 => ?_
 refine r_mv z (r_as z (r_as z ?_))
 refine r_nil (x_seq (c_ret ?_))
 refine ex_st (fun _ h => st_some (f := Al.op (⟨(pv4, g5)⟩ : Al.G)) (a := (⟨a0, 0, r2.1⟩ : Al)) (st_star_f (A := Al.fl b7 (⟨a0, 0, r2.1⟩ : Al) (⟨(pv4, g5)⟩ : Al.G)) h)) ?_
 obtain rfl := si hm6
 exact x_r2 z (rv_t z) (rv_t z) (Le.refl _) ⟨_, z, (pt b7 0, (⟨(pv4, g5)⟩ : Al.G)), z, z, z⟩
def B6 (a0 : Int) : Int :=
 (if 4096 < (i64 (8 * a0)) then 4096 else i64 (8 * a0))
theorem B6.ok {G R F} (a0 : Int) (r : Int) (hm : B6 a0 = r) : CO Tryz.prog 60 [vI a0] G R (F)
  (Ret fun u R' L' => u = vI r ∧ R' = R ∧ L' = F) := by
 unfold B6 at hm
 refine co_ofN (N := 6) Tryz.func60 z z ?_
 refine csr ?_
 refine r_as z ?_
 refine nsr ?_
 refine r_mv z (r_bin z z (bI_mul 8 a0) ?_)
 refine r_u (o_minI z z) (r_as z ?_)
 refine r_nil (x_seq (c_ret ?_))
 subst hm
 exact x_r1 z (rv_t z) (Le.refl _) ⟨_, z, z, z, z⟩
def CB (a0 : Int) : Nat → Int → (List (List UInt8)) → Option (List (List UInt8))
 | 0, _, _ => none
 | k14 + 1, s_11, c_12 => if decide (s_11 < 4) then (mks 1 a0 (0 : UInt8)).bind fun l20 => (gi c_12 s_11).bind fun y22 => CB a0 k14 (i64 (s_11 + 1)) (ls c_12 s_11 l20) else some c_12
def CY (a0 : Int) (a1 : UInt64) : Option (Option Aj × Int) :=
 if (decide (a0 < 1) || decide (4096 < a0)) then some (none, 1) else (mks 1 a0 (false : Bool)).bind fun l3 => Option.bind (CB a0 5 0 [[], [], [], []]) fun p6 => some ((some (⟨a0, a1, p6, l3, 0⟩ : Aj)), 0)
theorem CY.ok {G R F} (a0 : Int) (a1 : UInt64) (r : Option Aj × Int) (hm : CY a0 a1 = some r) : CO Tryz.prog 59 [vI a0, vW a1] G R (F)
  (Ret fun u R' L' => ∃ (p0 : Value × Aj.G), u = .tuple #[p0.1, vI r.2] ∧ R' = R ∧ L' = rO (Aj.op p0.2) p0.1 r.1 :: F) := by
 unfold CY at hm
 refine co_ofN (N := 32) Tryz.func59 z z ?_
 refine csr ?_
 refine r_as z (r_as z ?_)
 refine nssr ?_
 refine r_mv z (r_bin z z (bI_lt a0 1) (r_mv z ?_))
 refine r_s (s_gf z z fun g => o_mv z) ?_
 refine r_s (s_gf z z fun g => o_bin (evg z g) z (bI_gt a0 4096)) ?_
 refine r_u (o_or z z) ?_
 refine nsq ?_
 refine c_if (b := (decide (a0 < 1) || decide (4096 < a0))) z (fun h0 => ?_) fun h0 => ?_
 ·have hm1 := ift hm h0
  clear hm
  refine csr ?_
  refine r_as z (r_as z ?_)
  refine r_nil (x_seq (c_ret ?_))
  refine ex_st (fun _ h => st_none (f := Aj.op default) h) ?_
  obtain rfl := si hm1
  exact x_r2 z (rv_t z) (rv_t z) (Le.refl _) ⟨_, z, (nl, default), z, z, z⟩
 have hm1 := iff_ hm h0
 clear hm
 refine c_skip (x_seq (csr ?_))
 refine r_mv z (r_mv z (r_mv z ?_))
 obtain ⟨l3, hl3, hm4⟩ := bs hm1
 clear hm1
 refine r_sw (s_w (o_mk (sz := 1) (bytes := 1) (e := 4) (en := eB) Tryz.underlying34 z z z z z z z z z hl3)) ?_
 rintro v2 R _ _ ⟨rfl, rfl⟩
 refine r_u (ou_if (hd_o 0 z) fun hb0 => o_bld [vI a0, vW a1, .slice none 0 0, .slice none 0 0, .slice none 0 0, .slice none 0 0, v2, vI 0] z (fun _ => by obtain ⟨_, _, rfl⟩ := hb0; kernel_rfl)) ?_
 refine r_new (o_bx [vI a0, vW a1, .slice none 0 0, .slice none 0 0, .slice none 0 0, .slice none 0 0, v2, vI 0] z z) fun b5 => ?_
 refine r_as z ?_
 refine nssr ?_
 refine r_mv z ?_
 refine nsq ?_
 obtain ⟨p6, hp8, hm9⟩ := bs hm4
 refine cd_cut (fun x ks => ∀ (g7 : Value × Value × Value × Value), EX x .normal ks [(6, pt b5 0)] R (Bk b5 143 [vI a0, vW a1, g7.1, g7.2.1, g7.2.2.1, g7.2.2.2, v2, vI 0] :: OwS true 4 1 eB v2 l3 :: OwL (OwS false 5 1 eY) [g7.1, g7.2.1, g7.2.2.1, g7.2.2.2] p6 :: F)) ?_ fun K10 => ?_
 ·intro g7
  refine x_seq (csr ?_)
  refine r_mv z (r_as z (r_as z ?_))
  refine r_nil (x_seq (c_ret ?_))
  refine ex_st (fun _ h => mv2 (mv2 (mv1 h))) ?_
  refine ex_st (fun _ h => st_some (f := Aj.op (⟨g7, v2⟩ : Aj.G)) (a := (⟨a0, a1, p6, l3, 0⟩ : Aj)) (st_star_f (A := Aj.fl b5 (⟨a0, a1, p6, l3, 0⟩ : Aj) (⟨g7, v2⟩ : Aj.G)) h)) ?_
  obtain rfl := si hm9
  exact x_r2 z (rv_t z) (rv_t z) (Le.refl _) ⟨_, z, (pt b5 0, (⟨g7, v2⟩ : Aj.G)), z, z, z⟩
 refine c_blk ?_
 refine cd_st (fun _ h => st_lnil4 (own := OwS false 5 1 eY) (fun _ => OwS.nil) h) ?_
 refine cd_loopG (M := fun k14 (s : Int × List (List UInt8) × (Value × Value × Value × Value)) => CB a0 k14 s.1 s.2.1 = some p6) (Ef := fun (s : Int × List (List UInt8) × (Value × Value × Value × Value)) => [(0, vI a0), (6, pt b5 0), (20, vI s.1)]) (Rf := fun (s : Int × List (List UInt8) × (Value × Value × Value × Value)) => R) (Lf := fun (s : Int × List (List UInt8) × (Value × Value × Value × Value)) => Bk b5 143 [vI a0, vW a1, s.2.2.1, s.2.2.2.1, s.2.2.2.2.1, s.2.2.2.2.2, v2, vI 0] :: OwS true 4 1 eB v2 l3 :: OwL (OwS false 5 1 eY) [s.2.2.1, s.2.2.2.1, s.2.2.2.2.1, s.2.2.2.2.2] s.2.1 :: F) 5 (0, [[], [], [], []], (.slice none 0 0, .slice none 0 0, .slice none 0 0, .slice none 0 0)) hp8 ⟨z, z, z, trivial⟩ (fun _ h => st_pk 3 [1, 2, 0] (by decide) h) (fun _ h => by cases h) fun k14 s hM16 => ?_
 obtain ⟨s_11, c_12, g13⟩ := s
 have hm15 : CB a0 (k14 + 1) s_11 c_12 = some p6 := hM16
 rw [CB] at hm15
 refine csr ?_
 refine r_bin z z (bI_lt s_11 4) ?_
 refine r_nil (x_seq (c_seq ?_))
 refine c_if (b := decide (s_11 < 4)) z (fun h17 => ?_) fun h17 => ?_
 rotate_left
 ·have hm18 := iff_ hm15 h17
  clear hm15
  refine c_exit (x_exit (ks' := _) z ?_)
  obtain rfl := si hm18
  exact x_sub (K10 g13) ⟨z, trivial⟩ (fun _ h => st_pk 3 [0, 1, 2] (by decide) h)
 have hm18 := ift hm15 h17
 clear hm15
 refine c_skip (x_seq (c_seq (c_blk (csr ?_))))
 refine r_mv z (r_as z ?_)
 refine nsq ?_
 obtain ⟨l20, hl20, hm21⟩ := bs hm18
 clear hm18
 obtain ⟨y22, hy22, hm24⟩ := bs hm21
 clear hm21
 refine cd_ex (fun w h => st_peek 2 hy22 z w h) fun u23 hu23 => ?_
 refine c_any mixed (effs := [3, 7]) (V := []) ?_
 refine stage_ext [(0, pt b5 0), (1, vI s_11), (2, vI a0), (4, pt b5 0), (5, pt b5 2)] z ?_
 refine stage z z z z mk6_ [0, 1, 2, 4, 5] [3] z z z (q_mv z z z (q_mv z z z (q_mv z z z (q_u z z (o_nc z) (q_fa z z fa143_2 z qn))))) ?_ (nxt z)
 refine ec (eo_w z (s_w (o_mk (sz := 1) (bytes := 1) (e := 5) (en := eY) Tryz.underlying111 z z z z z z z z z hl20)) ?_) en
 rintro v19 R _ _ ⟨rfl, rfl⟩
 refine stage_st (fun _ h => st_weak h) ?_
 refine stage_st (fun _ h => mv2 (mv3 h)) ?_
 refine stage_ext [(6, pt b5 (2 + s_11.toNat * 1))] z ?_
 refine stage z z z z mk6_ [0, 1, 4, 5, 6] [7] z z z (q_mv z z z (q_mv z z z (q_u z z (o_nc z) (q_fa z z fa143_2 z (q_u z z (o_ixA (sz := 1) Tryz.underlying141 (fun _ => by kernel_rfl) z z (gi_some hu23).1) qn))))) ?_ (nxt z)
 refine ec (eo_w z (s_w (ow_if (one_o 2 z) fun ho => o_stA4 (A := [vI a0, vW a1]) (B := [v2, vI 0]) hy22 hu23 sc111 z z z ho)) ?_) en
 rintro _ R _ _ ⟨p25, p26, p27, p28, rfl, rfl, rfl⟩
 refine stage z z z z mk6_ [] [] z z z qn en ?_
 intro _
 refine ex_sub (E' := [(0, vI a0), (6, pt b5 0), (20, vI s_11)]) ⟨z, z, z, trivial⟩ ?_
 refine x_blk (x_seq (c_reg ?_))
 refine r_bin z z (bI_add s_11 1) (r_mv z ?_)
 refine r_nil ?_
 exact x_lp (i64 (s_11 + 1), ls c_12 s_11 l20, (p25, p26, p27, p28)) hm24 ⟨z, z, z, trivial⟩ (fun _ h => st_pk 3 [0, 2, 1] (by decide) h)
def Dx (a0 : Int) (a1 : UInt64) : Option (Option Ak × Int) :=
 if (decide (a0 < 1) || decide (1000 < a0)) then some (none, 1) else (CY (B6 a0) a1).bind fun r2 => (C0 3 (i64 (a0 + 1))).bind fun r7 => some ((some (⟨a0, r2.1, r7.1⟩ : Ak)), r7.2)
theorem Dx.ok {G R F} (a0 : Int) (a1 : UInt64) (r : Option Ak × Int) (hm : Dx a0 a1 = some r) : CO Tryz.prog 25 [vI a0, vW a1] G R (F)
  (Ret fun u R' L' => ∃ (p0 : Value × Ak.G), u = .tuple #[p0.1, vI r.2] ∧ R' = R ∧ L' = rO (Ak.op p0.2) p0.1 r.1 :: F) := by
 unfold Dx at hm
 refine co_ofN (N := 35) Tryz.func25 z z ?_
 refine csr ?_
 refine r_as z (r_as z ?_)
 refine nssr ?_
 refine r_mv z (r_bin z z (bI_lt a0 1) (r_mv z ?_))
 refine r_s (s_gf z z fun g => o_mv z) ?_
 refine r_s (s_gf z z fun g => o_bin (evg z g) z (bI_gt a0 1000)) ?_
 refine r_u (o_or z z) ?_
 refine nsq ?_
 refine c_if (b := (decide (a0 < 1) || decide (1000 < a0))) z (fun h0 => ?_) fun h0 => ?_
 ·have hm1 := ift hm h0
  clear hm
  refine csr ?_
  refine r_as z (r_as z ?_)
  refine r_nil (x_seq (c_ret ?_))
  refine ex_st (fun _ h => st_none (f := Ak.op default) h) ?_
  obtain rfl := si hm1
  exact x_r2 z (rv_t z) (rv_t z) (Le.refl _) ⟨_, z, (nl, default), z, z, z⟩
 have hm1 := iff_ hm h0
 clear hm
 refine c_skip (x_seq (csr ?_))
 refine r_mv z ?_
 refine r_u (o_callq ca60 z (B6.ok a0 _ z)) (r_mv z ?_)
 obtain ⟨r2, hr2, hm6⟩ := bs hm1
 clear hm1
 refine r_sw (s_w (o_call ca59 z (CY.ok (B6 a0) a1 r2 hr2))) ?_
 rintro _ R _ _ ⟨⟨pv4, g5⟩, rfl, rfl, rfl⟩
 refine r_mv z ?_
 refine r_ext z z ?_
 refine r_ext z z (r_as z (r_as z ?_))
 refine nsr ?_
 refine r_mv z (r_bin z z (bI_add a0 1) ?_)
 obtain ⟨r7, hr7, hm11⟩ := bs hm6
 clear hm6
 refine r_sw (s_w (o_call ca58 z (C0.ok 3 (i64 (a0 + 1)) r7 hr7))) ?_
 rintro _ R _ _ ⟨⟨pv9, g10⟩, rfl, rfl, rfl⟩
 refine r_mv z ?_
 refine r_ext z z ?_
 refine r_ext z z (r_as z (r_as z ?_))
 refine nsr ?_
 refine r_mv z (r_mv z (r_mv z ?_))
 refine r_u (ou_if (hd_p 1 z) fun hb0 => ou_if (hd_p 0 z) fun hb1 => o_bld [vI a0, pv4, pv9] z (fun _ => by obtain ⟨_, rfl⟩ := hb0; obtain ⟨_, rfl⟩ := hb1; kernel_rfl)) ?_
 refine r_new (o_bx [vI a0, pv4, pv9] z z) fun b12 => ?_
 refine r_mv z (r_as z (r_as z ?_))
 refine r_nil (x_seq (c_ret ?_))
 refine ex_st (fun _ h => mv2 (mv2 (mv1 h))) ?_
 refine ex_st (fun _ h => st_some (f := Ak.op (⟨(pv4, g5), (pv9, g10)⟩ : Ak.G)) (a := (⟨a0, r2.1, r7.1⟩ : Ak)) (st_star_f (A := Ak.fl b12 (⟨a0, r2.1, r7.1⟩ : Ak) (⟨(pv4, g5), (pv9, g10)⟩ : Ak.G)) h)) ?_
 obtain rfl := si hm11
 exact x_r2 z (rv_t z) (rv_t z) (Le.refl _) ⟨_, z, (pt b12 0, (⟨(pv4, g5), (pv9, g10)⟩ : Ak.G)), z, z, z⟩
def CM (a0 : Int) (a1 : Int) (a2 : UInt64) : Option (Option Ab × Int) :=
 Option.bind (if (a0 == 1) then (Dy a1).bind fun r15 => some (r15.2, r15.1, none) else Option.bind (if (a0 == 2) then (Dx a1 a2).bind fun r29 => some (r29.2, r29.1) else some (1, none)) fun p20 => some (p20.1, none, p20.2)) fun p1 => if (p1.1 != 0) then some (none, p1.1) else some ((some (⟨a0, p1.2.1, p1.2.2⟩ : Ab)), 0)
theorem CM.ok {G R F} (a0 : Int) (a1 : Int) (a2 : UInt64) (r : Option Ab × Int) (hm : CM a0 a1 a2 = some r) : CO Tryz.prog 5 [vI a0, vI a1, vW a2] G R (F)
  (Ret fun u R' L' => ∃ (p0 : Value × Ab.G), u = .tuple #[p0.1, vI r.2] ∧ R' = R ∧ L' = rO (Ab.op p0.2) p0.1 r.1 :: F) := by
 unfold CM at hm
 refine co_ofN (N := 39) Tryz.func5 z z ?_
 refine csr ?_
 refine r_as z (r_as z ?_)
 refine nsr ?_
 refine r_mv z ?_
 refine r_u (o_bld [vI a0, nl, nl] z (fun _ => by kernel_rfl)) ?_
 refine r_new (o_bx [vI a0, nl, nl] z z) fun b0 => ?_
 refine r_as z (r_as z ?_)
 refine nssr ?_
 refine r_mv z ?_
 refine r_nil (x_seq (c_blk (csr ?_)))
 refine r_bin z z (bI_eq a0 1) (r_as z ?_)
 refine nsq ?_
 obtain ⟨p1, hp8, hm9⟩ := bs hm
 refine cd_cut (fun x ks => ∀ (pv2 : Value × Al.G), ∀ (pv5 : Value × Ak.G), EX x .normal ks [(8, pt b0 0), (9, vI p1.1)] R (Bk b0 63 [vI a0, pv2.1, pv5.1] :: rO (Al.op pv2.2) pv2.1 p1.2.1 :: rO (Ak.op pv5.2) pv5.1 p1.2.2 :: F)) ?_ fun K10 => ?_
 ·intro pv2 pv5
  obtain ⟨pv3, g4⟩ := pv2
  obtain ⟨pv6, g7⟩ := pv5
  refine x_blk (x_seq (c_seq (csr ?_)))
  refine r_mv z (r_bin z z (bI_ne p1.1 0) ?_)
  refine nsq ?_
  refine c_if (b := (p1.1 != 0)) z (fun h11 => ?_) fun h11 => ?_
  ·have hm12 := ift hm9 h11
   clear hm9
   refine csr ?_
   refine r_mv z (r_as z (r_as z ?_))
   refine r_nil (x_seq (c_ret ?_))
   refine ex_st (fun _ h => st_none (f := Ab.op default) h) ?_
   obtain rfl := si hm12
   refine ex_st (fun _ h => st_pk 4 [0] (by decide) h) ?_
   exact x_r2 z (rv_t z) (rv_t z) (Le.refl _) ⟨_, z, (nl, default), z, z, z⟩
  have hm12 := iff_ hm9 h11
  clear hm9
  refine c_skip (x_seq (csr ?_))
  refine r_mv z (r_as z (r_as z ?_))
  refine r_nil (x_seq (c_ret ?_))
  refine ex_st (fun _ h => st_some (f := Ab.op (⟨(pv3, g4), (pv6, g7)⟩ : Ab.G)) (a := (⟨a0, p1.2.1, p1.2.2⟩ : Ab)) (st_star_f (A := Ab.fl b0 (⟨a0, p1.2.1, p1.2.2⟩ : Ab) (⟨(pv3, g4), (pv6, g7)⟩ : Ab.G)) h)) ?_
  obtain rfl := si hm12
  exact x_r2 z (rv_t z) (rv_t z) (Le.refl _) ⟨_, z, (pt b0 0, (⟨(pv3, g4), (pv6, g7)⟩ : Ab.G)), z, z, z⟩
 refine c_if (b := (a0 == 1)) z (fun h13 => ?_) fun h13 => ?_
 ·have hm14 := ift hp8 h13
  clear hp8
  refine c_reg ?_
  refine r_mv z (r_mv z ?_)
  obtain ⟨r15, hr15, hm19⟩ := bs hm14
  clear hm14
  refine r_sw (s_w (o_call ca24 z (Dy.ok a1 r15 hr15))) ?_
  rintro _ R _ _ ⟨⟨pv17, g18⟩, rfl, rfl, rfl⟩
  refine r_mv z ?_
  refine r_ext z z ?_
  refine r_ext z z (r_nc z (r_fa fa63_1 z ?_))
  refine rl_st (fun _ h => mv1 h) ?_
  refine r_u0 (ou_if (one_p 1 z) fun ho0 => o_st sc60 z z z ho0 z z) ?_
  refine r_as z ?_
  refine r_nil ?_
  refine ex_st (fun _ h => st_none (f := Ak.op default) h) ?_
  obtain rfl := si hm19
  exact x_sub (K10 (pv17, g18) (nl, default)) ⟨z, z, trivial⟩ (fun _ h => st_pk 3 [1, 2, 0] (by decide) h)
 have hm14 := iff_ hp8 h13
 clear hp8
 refine csr ?_
 refine r_bin z z (bI_eq a0 2) (r_as z ?_)
 refine nsq ?_
 obtain ⟨p20, hp24, hm25⟩ := bs hm14
 refine cd_cut (fun x ks => ∀ (pv21 : Value × Ak.G), EX x .normal ks [(8, pt b0 0), (9, vI p20.1)] R (Bk b0 63 [vI a0, nl, pv21.1] :: rO (Ak.op pv21.2) pv21.1 p20.2 :: F)) ?_ fun K26 => ?_
 ·intro pv21
  obtain ⟨pv22, g23⟩ := pv21
  refine ex_st (fun _ h => st_none (f := Al.op default) h) ?_
  obtain rfl := si hm25
  exact x_sub (K10 (nl, default) (pv22, g23)) ⟨z, z, trivial⟩ (fun _ h => st_pk 3 [1, 0, 2] (by decide) h)
 refine c_if (b := (a0 == 2)) z (fun h27 => ?_) fun h27 => ?_
 rotate_left
 ·have hm28 := iff_ hp24 h27
  clear hp24
  refine c_skip ?_
  refine ex_st (fun _ h => st_none (f := Ak.op default) h) ?_
  obtain rfl := si hm28
  exact x_sub (K26 (nl, default)) ⟨z, z, trivial⟩ (fun _ h => st_pk 2 [1, 0] (by decide) h)
 have hm28 := ift hp24 h27
 clear hp24
 refine c_reg ?_
 refine r_mv z (r_mv z (r_mv z ?_))
 obtain ⟨r29, hr29, hm33⟩ := bs hm28
 clear hm28
 refine r_sw (s_w (o_call ca25 z (Dx.ok a1 a2 r29 hr29))) ?_
 rintro _ R _ _ ⟨⟨pv31, g32⟩, rfl, rfl, rfl⟩
 refine r_mv z ?_
 refine r_ext z z ?_
 refine r_ext z z (r_nc z (r_fa fa63_2 z ?_))
 refine rl_st (fun _ h => mv1 h) ?_
 refine r_u0 (ou_if (one_p 1 z) fun ho0 => o_st sc61 z z z ho0 z z) ?_
 refine r_as z ?_
 refine r_nil ?_
 obtain rfl := si hm33
 exact x_sub (K26 (pv31, g32)) ⟨z, z, trivial⟩ (fun _ h => st_pk 2 [0, 1] (by decide) h)
def Bf (a0 : Int) (a1 : Int) : Option Ac :=
 (mks 24 a0 ([] : List Str)).bind fun l2 => some (⟨l2, a1⟩ : Ac)
theorem Bf.ok {G R F} (a0 : Int) (a1 : Int) (r : Ac) (hm : Bf a0 a1 = some r) : CO Tryz.prog 61 [vI a0, vI a1] G R (F)
  (Ret fun u R' L' => ∃ (p0 : Ac.G), u = .agg [p0.L.1, vI r.Places].toArray ∧ R' = R ∧ L' = OwS true 57 1 eV p0.L.1 p0.L.2 :: OwL (OwS true 9 1 eS) p0.L.2 r.L :: F) := by
 unfold Bf at hm
 refine co_ofN (N := 9) Tryz.func61 z z ?_
 refine csr ?_
 refine r_new (o_al ze30) fun b0 => ?_
 refine nsr ?_
 refine r_mv z ?_
 obtain ⟨l2, hl2, hm4⟩ := bs hm
 clear hm
 refine r_sw (s_w (o_mkN (bytes := 24) (e := 57) (ap2 := true) (T2 := 9) (sz := 1) (en := eS) Tryz.underlying28 z z z z z z z hl2)) ?_
 rintro v1 R _ _ ⟨hs3, rfl, rfl⟩
 refine r_mv z ?_
 refine r_u (ou_if (hd_o 0 z) fun hb0 => o_bld [v1, vI a1] z (fun _ => by obtain ⟨_, _, rfl⟩ := hb0; kernel_rfl)) ?_
 refine rl_st (fun _ h => mv2 h) ?_
 refine r_u0 (ou_if (one_o 1 z) fun ho0 => o_stn ag30 z z z (al_c ho0 (al_c z al_n)) z z z) ?_
 refine r_nil (x_seq (c_ret ?_))
 obtain rfl := si hm4
 exact x_d1 z (rv_n 0 [v1, vI a1] ag30 z z z z) (fun _ h => st_pk 3 [1, 2] (by decide) h) (Le.refl _) ⟨_, z, (⟨(v1, hs3)⟩ : Ac.G), z, z, z⟩
def CG (a0 : Int) : Option Aa :=
 (Bf 4 (i64 ((i64 (2 * a0)) + 1))).bind fun r1 => some (⟨a0, 0, r1⟩ : Aa)
theorem CG.ok {G R F} (a0 : Int) (r : Aa) (hm : CG a0 = some r) : CO Tryz.prog 26 [vI a0] G R (F)
  (Ret fun u R' L' => ∃ (p0 : Aa.G), u = .agg (Aa.k r p0).toArray ∧ R' = R ∧ L' = OwS true 57 1 eV p0.R.L.1 p0.R.L.2 :: OwL (OwS true 9 1 eS) p0.R.L.2 r.R.L :: F) := by
 unfold CG at hm
 refine co_ofN (N := 9) Tryz.func26 z z ?_
 refine csr ?_
 refine r_new (o_al ze32) fun b0 => ?_
 refine nsr ?_
 refine r_mv z (r_mv z (r_bin z z (bI_mul 2 a0) (r_bin z z (bI_add (i64 (2 * a0)) 1) ?_)))
 obtain ⟨r1, hr1, hm4⟩ := bs hm
 clear hm
 refine r_sw (s_w (o_call ca61 z (Bf.ok 4 (i64 ((i64 (2 * a0)) + 1)) r1 hr1))) ?_
 rintro _ R _ _ ⟨v2, rfl, rfl, rfl⟩
 refine r_u (ou_if (hd_o 0 z) fun hb0 => o_bld [vI a0, vI 0, v2.L.1, vI r1.Places] z (fun _ => by (try dsimp only [Ah.k, Ad.k, Aj.k, Af.k, Aa.k, Ae.k]); obtain ⟨_, _, he0⟩ := hb0; rw [he0]; kernel_rfl)) ?_
 refine rl_st (fun _ h => mv2 h) ?_
 refine r_u0 (ou_if (one_o 1 z) fun ho0 => o_stn ag32 z z z (al_c z (al_c z (al_c ho0 (al_c z al_n)))) z z z) ?_
 refine r_nil (x_seq (c_ret ?_))
 obtain rfl := si hm4
 exact x_d1 z (rv_n 0 [vI a0, vI 0, v2.L.1, vI r1.Places] ag32 z z z z) (fun _ h => st_pk 3 [1, 2] (by decide) h) (Le.refl _) ⟨_, z, (⟨v2⟩ : Aa.G), z, z, z⟩
def Cj (a0 : Int) : Int :=
 if decide (512 < a0) then 4096 else i64 (8 * a0)
theorem Cj.ok {G R F} (a0 : Int) (r : Int) (hm : Cj a0 = r) : CO Tryz.prog 63 [vI a0] G R (F)
  (Ret fun u R' L' => u = vI r ∧ R' = R ∧ L' = F) := by
 unfold Cj at hm
 refine co_ofN (N := 7) Tryz.func63 z z ?_
 refine csr ?_
 refine r_as z ?_
 refine nssr ?_
 refine r_mv z (r_bin z z (bI_gt a0 512) ?_)
 refine nsq ?_
 refine c_if (b := decide (512 < a0)) z (fun h0 => ?_) fun h0 => ?_
 ·have hm1 := ift hm h0
  clear hm
  refine csr ?_
  refine r_as z ?_
  refine r_nil (x_seq (c_ret ?_))
  subst hm1
  exact x_r1 z (rv_t z) (Le.refl _) ⟨_, z, z, z, z⟩
 have hm1 := iff_ hm h0
 clear hm
 refine c_skip (x_seq (csr ?_))
 refine r_mv z (r_bin z z (bI_mul 8 a0) (r_as z ?_))
 refine r_nil (x_seq (c_ret ?_))
 subst hm1
 exact x_r1 z (rv_t z) (Le.refl _) ⟨_, z, z, z, z⟩
def Bx (a0 : Int) : Nat → Int → (List (List Int)) → Option (List (List Int))
 | 0, _, _ => none
 | k13 + 1, i_10, c_11 => if decide (i_10 < 4) then (mks 8 a0 (0 : Int)).bind fun l19 => (apd 24 c_11 [l19]).bind fun l23 => Bx a0 k13 (i64 (i_10 + 1)) l23 else some c_11
def BM (a0 : Int) (a1 : UInt64) : Option Af :=
 (mks 1 a0 (false : Bool)).bind fun l2 => Option.bind (Bx a0 5 0 []) fun p5 => some (⟨a0, a1, p5, l2, 0⟩ : Af)
theorem BM.ok {G R F} (a0 : Int) (a1 : UInt64) (r : Af) (hm : BM a0 a1 = some r) : CO Tryz.prog 62 [vI a0, vW a1] G R (F)
  (Ret fun u R' L' => ∃ (p0 : Af.G), u = .agg (Af.k r p0).toArray ∧ R' = R ∧ L' = OwS true 135 1 eV p0.Rows.1 p0.Rows.2 :: OwL (OwS true 3 1 eI) p0.Rows.2 r.Rows :: OwS true 4 1 eB p0.Door r.Door :: F) := by
 unfold BM at hm
 refine co_ofN (N := 24) Tryz.func62 z z ?_
 refine csr ?_
 refine r_new (o_al ze36) fun b0 => ?_
 refine nsr ?_
 refine r_mv z (r_mv z (r_mv z ?_))
 obtain ⟨l2, hl2, hm3⟩ := bs hm
 clear hm
 refine r_sw (s_w (o_mk (sz := 1) (bytes := 1) (e := 4) (en := eB) Tryz.underlying34 z z z z z z z z z hl2)) ?_
 rintro v1 R _ _ ⟨rfl, rfl⟩
 refine r_u (ou_if (hd_o 0 z) fun hb0 => o_bld [vI a0, vW a1, .slice none 0 0, v1, vI 0] z (fun _ => by obtain ⟨_, _, rfl⟩ := hb0; kernel_rfl)) ?_
 refine r_new (o_al ze36) fun b4 => ?_
 refine r_u0 (ou_if (one_o 1 z) fun ho0 => o_stn ag36 z z z (al_c z (al_c z (al_c z (al_c ho0 (al_c z al_n))))) z z z) ?_
 refine nssr ?_
 refine r_as z ?_
 refine nsq ?_
 obtain ⟨p5, hp7, hm8⟩ := bs hm3
 refine cd_cut (fun x ks => ∀ (g6 : Value × List Value), EX x .normal ks [(4, pt b0 0), (5, pt b4 0)] R (Bk b4 36 [vI a0, vW a1, g6.1, v1, vI 0] :: Bk b0 36 [vI 0, vW 0, .slice none 0 0, .slice none 0 0, vI 0] :: OwS true 4 1 eB v1 l2 :: OwS true 135 1 eV g6.1 g6.2 :: OwL (OwS true 3 1 eI) g6.2 p5 :: F)) ?_ fun K9 => ?_
 ·intro g6
  refine x_seq (csr ?_)
  refine r_u (o_ldn 0 [vI a0, vW a1, g6.1, v1, vI 0] ag36 z z z z) ?_
  refine rl_st (fun _ h => mv3 (mv3 (mv2 h))) ?_
  refine r_u0 (ou_if (one_o 1 z) fun ho0 => ou_if (one_o 2 z) fun ho1 => o_stn ag36 z z z (al_c z (al_c z (al_c ho0 (al_c ho1 (al_c z al_n))))) z z z) ?_
  refine r_nil (x_seq (c_ret ?_))
  obtain rfl := si hm8
  exact x_d1 z (rv_n 0 [vI a0, vW a1, g6.1, v1, vI 0] ag36 z z z z) (fun _ h => st_pk 5 [1, 4, 2] (by decide) h) (Le.refl _) ⟨_, z, (⟨g6, v1⟩ : Af.G), z, z, z⟩
 refine c_blk ?_
 refine cd_st (fun _ h => st_nil (ap := true) (T := 135) (sz := 1) (en := eV) (st_lnil (own := OwS true 3 1 eI) h)) ?_
 refine cd_loopG (M := fun k13 (s : Int × List (List Int) × (Value × List Value)) => Bx a0 k13 s.1 s.2.1 = some p5) (Ef := fun (s : Int × List (List Int) × (Value × List Value)) => [(0, vI a0), (4, pt b0 0), (5, pt b4 0), (6, vI s.1)]) (Rf := fun (s : Int × List (List Int) × (Value × List Value)) => R) (Lf := fun (s : Int × List (List Int) × (Value × List Value)) => Bk b4 36 [vI a0, vW a1, s.2.2.1, v1, vI 0] :: Bk b0 36 [vI 0, vW 0, .slice none 0 0, .slice none 0 0, vI 0] :: OwS true 4 1 eB v1 l2 :: OwS true 135 1 eV s.2.2.1 s.2.2.2 :: OwL (OwS true 3 1 eI) s.2.2.2 s.2.1 :: F) 5 (0, [], (.slice none 0 0, [])) hp7 ⟨z, z, z, z, trivial⟩ (fun _ h => st_pk 5 [2, 4, 3, 0, 1] (by decide) h) (fun _ h => by cases h) fun k13 s hM15 => ?_
 obtain ⟨i_10, c_11, g12⟩ := s
 have hm14 : Bx a0 (k13 + 1) i_10 c_11 = some p5 := hM15
 rw [Bx] at hm14
 refine c_seq (csr ?_)
 refine r_mv z (r_bin z z (bI_lt i_10 4) ?_)
 refine nsq ?_
 refine c_if (b := decide (i_10 < 4)) z (fun h16 => ?_) fun h16 => ?_
 rotate_left
 ·have hm17 := iff_ hm14 h16
  clear hm14
  refine c_exit (x_exit (ks' := _) z ?_)
  obtain rfl := si hm17
  exact x_sub (K9 g12) ⟨z, z, trivial⟩ (fun _ h => st_pk 5 [0, 1, 2, 3, 4] (by decide) h)
 have hm17 := ift hm14 h16
 clear hm14
 refine c_skip (x_seq (c_seq (c_blk ?_)))
 obtain ⟨l19, hl19, hm20⟩ := bs hm17
 clear hm17
 obtain ⟨l23, hl23, hm25⟩ := bs hm20
 clear hm20
 refine c_any mixed (effs := [3, 4, 5, 7]) (V := []) ?_
 refine stage_ext [(0, pt b4 2), (1, g12.1), (2, vI a0)] z ?_
 refine stage z z z z mk17_ [0, 1, 2] [3] z z z (q_fa z z fa36_2 z (q_ld z z 0 sc33 z z z (q_mv z z z qn))) ?_ (nxt z)
 refine ec (eo_w z (s_w (o_mk (sz := 1) (bytes := 8) (e := 3) (en := eI) Tryz.underlying135 z z z z z z z z z hl19)) ?_) en
 rintro v18 R _ _ ⟨rfl, rfl⟩
 refine stage z z z z mk17_ [0, 1] [4] z z z (q_fa z z fa36_2 z (q_ld z z 1 sc33 z z z qn)) ?_ (nxt z)
 refine ec (eo_w z (s_w (ow_if (hd_o 0 z) fun hb => o_bsl (en := eV) (sz := 1) (e := 135) (cs := [v18]) (r := [v18]) z (fun _ => by obtain ⟨_, _, rfl⟩ := hb; kernel_rfl) z (by decide) z (fun _ => z))) ?_) en
 rintro v21 R _ _ ⟨rfl, rfl⟩
 refine stage_st (fun _ h => mv1 h) ?_
 refine stage_st (fun _ h => st_l1 h) ?_
 refine stage_st (fun _ h => mv6 (mv6 (mv1 h))) ?_
 refine stage z z z z mk17_ [0, 1] [5] z z z (q_fa z z fa36_2 z (q_ld z z 4 sc33 z z z qn)) ?_ (nxt z)
 refine ec (eo_w z (s_w (o_apN (bytes := 24) Tryz.underlying33 z z z z z z z z z (Nat.succ_pos _) hl23)) ?_) en
 rintro v22 R _ _ ⟨hs24, rfl, rfl⟩
 refine stage_st (fun _ h => mv2 h) ?_
 refine stage_ext [(6, pt b4 2)] z ?_
 refine stage z z z z mk17_ [6] [7] z z z (q_fa z z fa36_2 z qn) ?_ (nxt z)
 refine ec (eo_u z (s_u (ou_if (one_o 1 z) fun ho0 => o_st sc33 z z z ho0 z z)) (Le.refl _) ?_) en
 refine stage z z z z mk17_ [] [] z z z qn en ?_
 intro _
 refine ex_sub (E' := [(0, vI a0), (4, pt b0 0), (5, pt b4 0), (6, vI i_10)]) ⟨z, z, z, z, trivial⟩ ?_
 refine x_blk (x_seq (c_reg ?_))
 refine r_mv z (r_bin z z (bI_add i_10 1) (r_as z ?_))
 refine r_nil ?_
 exact x_lp (i64 (i_10 + 1), l23, (v22, hs24)) hm25 ⟨z, z, z, z, trivial⟩ (fun _ h => st_pk 5 [0, 3, 4, 1, 2] (by decide) h)
def CH (a0 : Int) (a1 : UInt64) : Option Ad :=
 (BM (Cj a0) a1).bind fun r1 => (Bf 3 (i64 (a0 + 1))).bind fun r6 => some (⟨a0, r1, r6⟩ : Ad)
theorem CH.ok {G R F} (a0 : Int) (a1 : UInt64) (r : Ad) (hm : CH a0 a1 = some r) : CO Tryz.prog 27 [vI a0, vW a1] G R (F)
  (Ret fun u R' L' => ∃ (p0 : Ad.G), u = .agg (Ad.k r p0).toArray ∧ R' = R ∧ L' = OwS true 135 1 eV p0.S.Rows.1 p0.S.Rows.2 :: OwL (OwS true 3 1 eI) p0.S.Rows.2 r.S.Rows :: OwS true 4 1 eB p0.S.Door r.S.Door :: OwS true 57 1 eV p0.R.L.1 p0.R.L.2 :: OwL (OwS true 9 1 eS) p0.R.L.2 r.R.L :: F) := by
 unfold CH at hm
 refine co_ofN (N := 14) Tryz.func27 z z ?_
 refine csr ?_
 refine r_new (o_al ze38) fun b0 => ?_
 refine nsr ?_
 refine r_mv z (r_mv z ?_)
 refine r_u (o_callq ca63 z (Cj.ok a0 _ z)) (r_mv z ?_)
 obtain ⟨r1, hr1, hm5⟩ := bs hm
 clear hm
 refine r_sw (s_w (o_call ca62 z (BM.ok (Cj a0) a1 r1 hr1))) ?_
 rintro _ R _ _ ⟨v2, rfl, rfl, rfl⟩
 refine r_mv z (r_bin z z (bI_add a0 1) ?_)
 obtain ⟨r6, hr6, hm9⟩ := bs hm5
 clear hm5
 refine r_sw (s_w (o_call ca61 z (Bf.ok 3 (i64 (a0 + 1)) r6 hr6))) ?_
 rintro _ R _ _ ⟨v7, rfl, rfl, rfl⟩
 refine r_u (ou_if (hd_o 2 z) fun hb0 => ou_if (hd_o 4 z) fun hb1 => ou_if (hd_o 0 z) fun hb2 => o_bld [vI a0, vI r1.Wide, vW r1.Seed, v2.Rows.1, v2.Door, vI r1.Added, v7.L.1, vI r6.Places] z (fun _ => by (try dsimp only [Ah.k, Ad.k, Aj.k, Af.k, Aa.k, Ae.k]); obtain ⟨_, _, he0⟩ := hb0; rw [he0]; obtain ⟨_, _, he1⟩ := hb1; rw [he1]; obtain ⟨_, _, he2⟩ := hb2; rw [he2]; kernel_rfl)) ?_
 refine rl_st (fun _ h => mv5 (mv3 (mv4 h))) ?_
 refine r_u0 (ou_if (one_o 1 z) fun ho0 => ou_if (one_o 2 z) fun ho1 => ou_if (one_o 3 z) fun ho2 => o_stn ag38 z z z (al_c z (al_c z (al_c z (al_c ho0 (al_c ho1 (al_c z (al_c ho2 (al_c z al_n)))))))) z z z) ?_
 refine r_nil (x_seq (c_ret ?_))
 obtain rfl := si hm9
 exact x_d1 z (rv_n 0 [vI a0, vI r1.Wide, vW r1.Seed, v2.Rows.1, v2.Door, vI r1.Added, v7.L.1, vI r6.Places] ag38 z z z z) (fun _ h => st_pk 6 [1, 5, 2, 3, 4] (by decide) h) (Le.refl _) ⟨_, z, (⟨v2, v7⟩ : Ad.G), z, z, z⟩
def Cs (a0 : Int) (a1 : Int) (a2 : UInt64) : Option Ah :=
 if (a0 == 1) then (CG a1).bind fun r3 => some (⟨1, r3, (⟨0, (⟨0, 0, [], [], 0⟩ : Af), (⟨[], 0⟩ : Ac)⟩ : Ad)⟩ : Ah) else (CH a1 a2).bind fun r8 => some (⟨2, (⟨0, 0, (⟨[], 0⟩ : Ac)⟩ : Aa), r8⟩ : Ah)
theorem Cs.ok {G R F} (a0 : Int) (a1 : Int) (a2 : UInt64) (r : Ah) (hm : Cs a0 a1 a2 = some r) : CO Tryz.prog 6 [vI a0, vI a1, vW a2] G R (F)
  (Ret fun u R' L' => ∃ (p0 : Ah.G), u = .agg (Ah.k r p0).toArray ∧ R' = R ∧ L' = OwS true 57 1 eV p0.A.R.L.1 p0.A.R.L.2 :: OwL (OwS true 9 1 eS) p0.A.R.L.2 r.A.R.L :: OwS true 135 1 eV p0.T.S.Rows.1 p0.T.S.Rows.2 :: OwL (OwS true 3 1 eI) p0.T.S.Rows.2 r.T.S.Rows :: OwS true 4 1 eB p0.T.S.Door r.T.S.Door :: OwS true 57 1 eV p0.T.R.L.1 p0.T.R.L.2 :: OwL (OwS true 9 1 eS) p0.T.R.L.2 r.T.R.L :: F) := by
 unfold Cs at hm
 refine co_ofN (N := 16) Tryz.func6 z z ?_
 refine csr ?_
 refine r_new (o_al ze40) fun b0 => ?_
 refine nssr ?_
 refine r_mv z (r_bin z z (bI_eq a0 1) ?_)
 refine nsq ?_
 refine c_if (b := (a0 == 1)) z (fun h1 => ?_) fun h1 => ?_
 ·have hm2 := ift hm h1
  clear hm
  refine csr ?_
  refine r_mv z ?_
  obtain ⟨r3, hr3, hm7⟩ := bs hm2
  clear hm2
  refine r_sw (s_w (o_call ca26 z (CG.ok a1 r3 hr3))) ?_
  rintro _ R _ _ ⟨v4, rfl, rfl, rfl⟩
  refine r_u (ou_if (hd_o 0 z) fun hb0 => o_bld [vI 1, vI r3.Most, vI r3.Target, v4.R.L.1, vI r3.R.Places, vI 0, vI 0, vW 0, .slice none 0 0, .slice none 0 0, vI 0, .slice none 0 0, vI 0] z (fun _ => by (try dsimp only [Ah.k, Ad.k, Aj.k, Af.k, Aa.k, Ae.k]); obtain ⟨_, _, he0⟩ := hb0; rw [he0]; kernel_rfl)) ?_
  refine rl_st (fun _ h => mv2 h) ?_
  refine r_u0 (ou_if (one_o 1 z) fun ho0 => o_stn ag40 z z z (al_c z (al_c z (al_c z (al_c ho0 (al_c z (al_c z (al_c z (al_c z (al_c z (al_c z (al_c z (al_c z (al_c z al_n))))))))))))) z z z) ?_
  refine r_nil (x_seq (c_ret ?_))
  refine ex_st (fun _ h => st_nil (ap := true) (T := 135) (sz := 1) (en := eV) (st_lnil (own := OwS true 3 1 eI) h)) ?_
  refine ex_st (fun _ h => st_nil (ap := true) (T := 4) (sz := 1) (en := eB) h) ?_
  refine ex_st (fun _ h => st_nil (ap := true) (T := 57) (sz := 1) (en := eV) (st_lnil (own := OwS true 9 1 eS) h)) ?_
  obtain rfl := si hm7
  exact x_d1 z (rv_n 5 [vI 1, vI r3.Most, vI r3.Target, v4.R.L.1, vI r3.R.Places, vI 0, vI 0, vW 0, .slice none 0 0, .slice none 0 0 , vI 0, .slice none 0 0  , vI 0] ag40 z z z z) (fun _ h => st_pk 8 [6, 7, 3, 4, 2, 0, 1] (by decide) h) (Le.refl _) ⟨_, z, (⟨v4, (⟨(⟨(.slice none 0 0, []), .slice none 0 0 ⟩ : Af.G), (⟨(.slice none 0 0  , [] )⟩ : Ac.G)⟩ : Ad.G)⟩ : Ah.G), z, z, z⟩
 have hm2 := iff_ hm h1
 clear hm
 refine c_skip (x_seq (csr ?_))
 refine r_mv z (r_mv z ?_)
 obtain ⟨r8, hr8, hm15⟩ := bs hm2
 clear hm2
 refine r_sw (s_w (o_call ca27 z (CH.ok a1 a2 r8 hr8))) ?_
 rintro _ R _ _ ⟨v9, rfl, rfl, rfl⟩
 refine r_u (ou_if (hd_o 0 z) fun hb0 => ou_if (hd_o 2 z) fun hb1 => ou_if (hd_o 3 z) fun hb2 => o_bld [vI 2, vI 0, vI 0, .slice none 0 0, vI 0, vI r8.Most, vI r8.S.Wide, vW r8.S.Seed, v9.S.Rows.1, v9.S.Door, vI r8.S.Added, v9.R.L.1, vI r8.R.Places] z (fun _ => by (try dsimp only [Ah.k, Ad.k, Aj.k, Af.k, Aa.k, Ae.k]); obtain ⟨_, _, he0⟩ := hb0; rw [he0]; obtain ⟨_, _, he1⟩ := hb1; rw [he1]; obtain ⟨_, _, he2⟩ := hb2; rw [he2]; kernel_rfl)) ?_
 refine rl_st (fun _ h => mv5 (mv2 (mv3 (mv3 h)))) ?_
 refine r_u0 (ou_if (one_o 1 z) fun ho0 => ou_if (one_o 2 z) fun ho1 => ou_if (one_o 3 z) fun ho2 => o_stn ag40 z z z (al_c z (al_c z (al_c z (al_c z (al_c z (al_c z (al_c z (al_c z (al_c ho0 (al_c ho1 (al_c z (al_c ho2 (al_c z al_n))))))))))))) z z z) ?_
 refine r_nil (x_seq (c_ret ?_))
 refine ex_st (fun _ h => st_nil (ap := true) (T := 57) (sz := 1) (en := eV) (st_lnil (own := OwS true 9 1 eS) h)) ?_
 obtain rfl := si hm15
 exact x_d1 z (rv_n 2 [vI 2, vI 0, vI 0, .slice none 0 0, vI 0, vI r8.Most, vI r8.S.Wide, vW r8.S.Seed, v9.S.Rows.1, v9.S.Door, vI r8.S.Added, v9.R.L.1, vI r8.R.Places] ag40 z z z z) (fun _ h => st_pk 8 [0, 1, 3, 6, 4, 5, 7] (by decide) h) (Le.refl _) ⟨_, z, (⟨(⟨(⟨(.slice none 0 0, [])⟩ : Ac.G)⟩ : Aa.G), v9⟩ : Ah.G), z, z, z⟩
def An (a0 : Ab) : Int :=
 a0.kind
theorem An.ok {G R F} (b0_ : Nat) (a0 : Ab) (g0_ : Ab.G) (r : Int) (hm : An a0 = r) : CO Tryz.prog 16 [pt b0_ 0] G R (Bk b0_ 63 [vI a0.kind, g0_.a.1, g0_.t.1] :: rO (Al.op g0_.a.2) g0_.a.1 a0.a :: rO (Ak.op g0_.t.2) g0_.t.1 a0.t :: F)
  (Ret fun u R' L' => u = vI r ∧ R' = R ∧ L' = Bk b0_ 63 [vI a0.kind, g0_.a.1, g0_.t.1] :: rO (Al.op g0_.a.2) g0_.a.1 a0.a :: rO (Ak.op g0_.t.2) g0_.t.1 a0.t :: F) := by
 obtain ⟨⟨pv1, g2⟩, ⟨pv4, g5⟩⟩ := g0_
 unfold An at hm
 refine co_ofN (N := 9) Tryz.func16 z z ?_
 refine csr ?_
 refine r_as z ?_
 refine nssr ?_
 refine r_mv z (r_bin z z (bP_eqp Tryz.underlying23) ?_)
 refine nsq ?_
 refine c_ff z ?_
 refine c_skip (x_seq (csr ?_))
 refine r_mv z (r_nc z (r_fa fa63_0 z (r_ld 0 sc3 z z z (r_as z ?_))))
 refine r_nil (x_seq (c_ret ?_))
 subst hm
 exact x_r1 z (rv_t z) (Le.refl _) ⟨_, z, z, z, z⟩
def Bd (a0 : Ae) (a1 : Str) : Option (Int × Bool) :=
 if !((mget a0.at_ a1).isSome) then some (0, false) else (gi a0.slots ((mget a0.at_ a1).getD (0 : Int))).bind fun x6 => some (x6.list, true)
theorem Bd.ok {G R F} (b0_ : Nat) (a0 : Ae) (g0_ : Ae.G) (a1 : Str) (r : Int × Bool) (hm : Bd a0 a1 = some r) : CO Tryz.prog 76 [pt b0_ 0, vS a1] G R (Bk b0_ 138 (Ae.k a0 g0_) :: OwS true 140 4 Ap.c g0_.slots a0.slots :: OwS true 3 1 eI g0_.free a0.free :: OwM vS vI g0_.at_ a0.at_ :: OwS true 3 1 eI g0_.many a0.many :: F)
  (Ret fun u R' L' => u = .tuple #[vI r.1, vB r.2] ∧ R' = R ∧ L' = Bk b0_ 138 (Ae.k a0 g0_) :: OwS true 140 4 Ap.c g0_.slots a0.slots :: OwS true 3 1 eI g0_.free a0.free :: OwM vS vI g0_.at_ a0.at_ :: OwS true 3 1 eI g0_.many a0.many :: F) := by
 unfold Bd at hm
 refine co_ofN (N := 29) Tryz.func76 z z ?_
 refine csr ?_
 refine r_as z (r_as z ?_)
 refine nssr ?_
 refine r_mv z (r_bin z z (bP_eqp Tryz.underlying82) ?_)
 refine nsq ?_
 refine c_ff z ?_
 refine c_skip (x_seq (csr ?_))
 refine r_mv z (r_nc z (r_fa fa138_3 z (r_ld 0 sc134 z z z (r_mv z ?_))))
 refine r_u (o_lk (kv := vS) (vv := vI) (key := a1) (z0 := (0 : Int)) 3 Tryz.underlying134 (kok_S Tryz.underlying9) (fun _ => by kernel_rfl) z z z) (r_mv z ?_)
 refine r_ext z z ?_
 refine r_ext z z (r_as z (r_as z ?_))
 refine nssr ?_
 refine r_mv z ?_
 refine r_u (o_not z) ?_
 refine nsq ?_
 refine c_if (b := !((mget a0.at_ a1).isSome)) z (fun h4 => ?_) fun h4 => ?_
 ·have hm5 := ift hm h4
  clear hm
  refine csr ?_
  refine r_as z (r_as z ?_)
  refine r_nil (x_seq (c_ret ?_))
  obtain rfl := si hm5
  exact x_r2 z (rv_t z) (rv_t z) (Le.refl _) ⟨_, z, z, z, z⟩
 have hm5 := iff_ hm h4
 clear hm
 refine c_skip (x_seq (csr ?_))
 refine r_mv z (r_nc z (r_fa fa138_1 z (r_ld 0 sc136 z z z (r_mv z ?_))))
 obtain ⟨x6, hx6, hm7⟩ := bs hm5
 clear hm5
 refine r_u (o_ixO 1 Tryz.underlying136 (fun _ => by kernel_rfl) z z z hx6) (r_fa fa140_1 z (r_u (o_ldO 1 1 sc3 z z hx6 z z) (r_as z (r_as z ?_))))
 refine r_nil (x_seq (c_ret ?_))
 obtain rfl := si hm7
 exact x_r2 z (rv_t z) (rv_t z) (Le.refl _) ⟨_, z, z, z, z⟩
def CL (a0 : Al) (a1 : Str) : Option Bool :=
 om a0.r (none) fun x3 => (Bd x3 a1).bind fun r11 => some (r11.2 && decide (r11.1 ≤ 1))
theorem CL.ok {G R F} (b0_ : Nat) (a0 : Al) (g0_ : Al.G) (a1 : Str) (r : Bool) (hm : CL a0 a1 = some r) : CO Tryz.prog 37 [pt b0_ 0, vS a1] G R (Bk b0_ 86 [vI a0.most, vI a0.target, g0_.r.1] :: rO (Ae.op g0_.r.2) g0_.r.1 a0.r :: F)
  (Ret fun u R' L' => u = vB r ∧ R' = R ∧ L' = Bk b0_ 86 [vI a0.most, vI a0.target, g0_.r.1] :: rO (Ae.op g0_.r.2) g0_.r.1 a0.r :: F) := by
 obtain ⟨⟨pv1, g2⟩⟩ := g0_
 unfold CL at hm
 refine co_ofN (N := 23) Tryz.func37 z z ?_
 refine csr ?_
 refine r_as z ?_
 refine nssr ?_
 refine r_mv z (r_bin z z (bP_eqp Tryz.underlying60) ?_)
 refine nsq ?_
 refine c_ff z ?_
 refine c_skip (x_seq (c_seq ?_))
 refine cd_st (fun _ h => mv1 h) ?_
 refine cd_opt (fun ho5 => ?_) (fun x3 b4 ho5 => ?_)
 ·rintro rfl
  have hm6 := om_n hm ho5
  clear hm
  cases hm6
 rintro rfl
 have hm6 := om_s hm ho5
 clear hm
 refine cd_st (fun _ h => st_star_o h) ?_
 refine c_reg ?_
 refine r_mv z (r_nc z (r_fa fa86_2 z (r_ld 5 sc82 z z z (r_mv z ?_))))
 obtain ⟨r11, hr11, hm12⟩ := bs hm6
 clear hm6
 refine r_c (s_w (o_call ca76 z (Bd.ok b4 x3 g2 a1 r11 hr11))) ?_
 refine r_mv z ?_
 refine r_ext z z ?_
 refine r_ext z z (r_as z (r_as z ?_))
 refine nsr ?_
 refine r_mv z (r_mv z ?_)
 refine r_s (s_gt z z fun g => o_mv z) ?_
 refine r_s (s_gt z z fun g => o_bin (evg z g) z (bI_le r11.1 1)) ?_
 refine r_u (o_and z z) (r_as z ?_)
 refine r_nil (x_seq (c_ret ?_))
 refine ex_st (fun _ h => st_some (f := Ae.op g2) (a := x3) (st_star_f (A := Ae.fl b4 x3 g2) h)) ?_
 refine ex_st (fun _ h => st_back ho5 h) ?_
 obtain rfl := si hm12
 refine ex_st (fun _ h => st_pk 2 [1, 0] (by decide) h) ?_
 exact x_r1 z (rv_t z) (Le.refl _) ⟨_, z, z, z, z⟩
def BT (a0 : Ae) (a1 : Int) : Bool :=
 (decide (0 ≤ a1) && decide (a1 < a0.lists))
theorem BT.ok {G R F} (b0_ : Nat) (a0 : Ae) (g0_ : Ae.G) (a1 : Int) (r : Bool) (hm : BT a0 a1 = r) : CO Tryz.prog 109 [pt b0_ 0, vI a1] G R (Bk b0_ 138 (Ae.k a0 g0_) :: OwS true 140 4 Ap.c g0_.slots a0.slots :: OwS true 3 1 eI g0_.free a0.free :: OwM vS vI g0_.at_ a0.at_ :: OwS true 3 1 eI g0_.many a0.many :: F)
  (Ret fun u R' L' => u = vB r ∧ R' = R ∧ L' = Bk b0_ 138 (Ae.k a0 g0_) :: OwS true 140 4 Ap.c g0_.slots a0.slots :: OwS true 3 1 eI g0_.free a0.free :: OwM vS vI g0_.at_ a0.at_ :: OwS true 3 1 eI g0_.many a0.many :: F) := by
 unfold BT at hm
 refine co_ofN (N := 19) Tryz.func109 z z ?_
 refine csr ?_
 refine r_as z ?_
 refine nsr ?_
 refine r_mv z (r_bin z z (bP_nep Tryz.underlying82) (r_mv z ?_))
 refine r_s (s_y z z z (o_mv z)) ?_
 refine r_s (s_y z z z (o_bin z z (bI_ge a1 0))) ?_
 refine r_u (o_pt z z z) (r_mv z ?_)
 refine r_s (s_gt z z fun g => o_mv z) ?_
 refine r_s (s_gt z z fun g => o_mv z) ?_
 refine r_s (s_gt z z fun g => o_nc (evg z g)) ?_
 refine r_s (s_gt z z fun g => o_fa fa138_0 (evg z g)) ?_
 refine r_s (s_gt z z fun g => o_ld 0 sc3 (evg z g) z z) ?_
 refine r_s (s_gt z z fun g => o_bin (evg z g) (evg z g) (bI_lt a1 a0.lists)) ?_
 refine r_u (o_and z z) (r_as z ?_)
 refine r_nil (x_seq (c_ret ?_))
 subst hm
 exact x_r1 z (rv_t z) (Le.refl _) ⟨_, z, z, z, z⟩
def Cr (a0 : Ae) (a1 : Int) : Option Ae :=
 (gi a0.slots a1).bind fun x4 => (gi a0.slots x4.prev).bind fun x6 => (gi (ls a0.slots x4.prev (⟨x6.key, x6.list, x6.prev, x4.next⟩ : Ap)) x4.next).bind fun x8 => (gi (ls (ls a0.slots x4.prev (⟨x6.key, x6.list, x6.prev, x4.next⟩ : Ap)) x4.next (⟨x8.key, x8.list, x4.prev, x8.next⟩ : Ap)) a1).bind fun x10 => (gi a0.many x10.list).bind fun x12 => some (⟨a0.lists, ls (ls a0.slots x4.prev (⟨x6.key, x6.list, x6.prev, x4.next⟩ : Ap)) x4.next (⟨x8.key, x8.list, x4.prev, x8.next⟩ : Ap), a0.free, a0.at_, ls a0.many x10.list (i64 (x12 - 1))⟩ : Ae)
theorem Cr.ok {G R F} (b0_ : Nat) (a0 : Ae) (g0_ : Ae.G) (a1 : Int) (r : Ae) (hm : Cr a0 a1 = some r) : CO Tryz.prog 123 [pt b0_ 0, vI a1] G R (Bk b0_ 138 (Ae.k a0 g0_) :: OwS true 140 4 Ap.c g0_.slots a0.slots :: OwS true 3 1 eI g0_.free a0.free :: OwM vS vI g0_.at_ a0.at_ :: OwS true 3 1 eI g0_.many a0.many :: F)
  (Ret fun u R' L' => u = .tuple #[] ∧ R' = R ∧ L' = Bk b0_ 138 (Ae.k r g0_) :: OwS true 140 4 Ap.c g0_.slots r.slots :: OwS true 3 1 eI g0_.free r.free :: OwM vS vI g0_.at_ r.at_ :: OwS true 3 1 eI g0_.many r.many :: F) := by
 unfold Cr at hm
 refine co_ofN (N := 51) Tryz.func123 z z ?_
 refine csr ?_
 refine r_mv z (r_nc z (r_fa fa138_1 z (r_ld 0 sc136 z z z (r_mv z ?_))))
 obtain ⟨x4, hx4, hm5⟩ := bs hm
 clear hm
 refine r_u (o_ixO 1 Tryz.underlying136 (fun _ => by kernel_rfl) z z z hx4) (r_as z ?_)
 refine r_nil (x_seq (c_seq ?_))
 obtain ⟨x6, hx6, hm7⟩ := bs hm5
 clear hm5
 obtain ⟨x8, hx8, hm9⟩ := bs hm7
 clear hm7
 refine c_any mixed (effs := [26, 29]) (V := []) ?_
 refine stage_st (fun _ h => mv1 h) ?_
 refine stage_ext [(0, pt b0_ 0), (1, pt b0_ 0), (2, pt b0_ 1), (3, g0_.slots), (4, pt (sb g0_.slots) (so g0_.slots + a1.toNat * 4)), (5, pt (sb g0_.slots) (so g0_.slots + a1.toNat * 4)), (6, pt (sb g0_.slots) (so g0_.slots + a1.toNat * 4 + 2)), (7, vI x4.prev), (8, pt b0_ 0), (9, pt b0_ 0), (10, pt b0_ 1), (11, g0_.slots), (12, pt (sb g0_.slots) (so g0_.slots + a1.toNat * 4)), (13, pt (sb g0_.slots) (so g0_.slots + a1.toNat * 4)), (14, pt (sb g0_.slots) (so g0_.slots + a1.toNat * 4 + 3)), (15, vI x4.next), (16, pt (sb g0_.slots) (so g0_.slots + a1.toNat * 4)), (17, pt (sb g0_.slots) (so g0_.slots + a1.toNat * 4)), (18, pt (sb g0_.slots) (so g0_.slots + a1.toNat * 4 + 3)), (19, vI x4.next), (20, pt (sb g0_.slots) (so g0_.slots + a1.toNat * 4)), (21, pt (sb g0_.slots) (so g0_.slots + a1.toNat * 4)), (22, pt (sb g0_.slots) (so g0_.slots + a1.toNat * 4 + 2)), (23, vI x4.prev), (24, pt (sb g0_.slots) (so g0_.slots + x4.prev.toNat * 4)), (25, pt (sb g0_.slots) (so g0_.slots + x4.prev.toNat * 4 + 3))] z ?_
 refine stage z z z z mk22_ [0, 1, 2, 3, 4, 5, 6, 7, 8, 9, 10, 11, 12, 13, 14, 15, 16, 17, 18, 19, 20, 21, 22, 23, 24, 25] [26] z z z (q_mv z z z (q_u z z (o_nc z) (q_fa z z fa138_1 z (q_ld z z 1 sc136 z z z (q_mv z z z (q_u z z (o_nc z) (q_fa z z fa140_2 z (q_u z z (o_ldO 0 2 sc3 z z hx4 z z) (q_mv z z z (q_u z z (o_nc z) (q_fa z z fa138_1 z (q_ld z z 1 sc136 z z z (q_mv z z z (q_u z z (o_nc z) (q_fa z z fa140_3 z (q_u z z (o_ldO 0 3 sc3 z z hx4 z z) (q_mv z z z (q_u z z (o_nc z) (q_fa z z fa140_3 z (q_u z z (o_ldO 0 3 sc3 z z hx4 z z) (q_mv z z z (q_u z z (o_nc z) (q_fa z z fa140_2 z (q_u z z (o_ldO 0 2 sc3 z z hx4 z z) (q_u z z (o_ixO 0 Tryz.underlying136 (fun _ => by kernel_rfl) z z z hx6) (q_fa z z fa140_3 z qn)))))))))))))))))))))))))) ?_ (nxt z)
 refine ec (eo_u z (s_u (o_stO (c' := (⟨x6.key, x6.list, x6.prev, x4.next⟩ : Ap)) 3 sc3 z z z hx6 z z z)) (Le.refl _) ?_) en
 refine stage_ext [(27, pt (sb g0_.slots) (so g0_.slots + x4.next.toNat * 4)), (28, pt (sb g0_.slots) (so g0_.slots + x4.next.toNat * 4 + 2))] z ?_
 refine stage z z z z mk22_ [27, 28] [29] z z z (q_u z z (o_ixO 0 Tryz.underlying136 (fun _ => by kernel_rfl) z z z hx8) (q_fa z z fa140_2 z qn)) ?_ (nxt z)
 refine ec (eo_u z (s_u (o_stO (c' := (⟨x8.key, x8.list, x4.prev, x8.next⟩ : Ap)) 2 sc3 z z z hx8 z z z)) (Le.refl _) ?_) en
 refine stage z z z z mk22_ [] [] z z z qn en ?_
 intro _
 refine ex_sub (E' := [(0, pt b0_ 0), (4, pt (sb g0_.slots) (so g0_.slots + a1.toNat * 4))]) ⟨z, z, trivial⟩ ?_
 refine x_seq ?_
 obtain ⟨x10, hx10, hm11⟩ := bs hm9
 clear hm9
 obtain ⟨x12, hx12, hm13⟩ := bs hm11
 clear hm11
 refine c_any mixed (effs := [12]) (V := []) ?_
 refine stage_st (fun _ h => mv4 h) ?_
 refine stage_ext [(0, pt b0_ 0), (1, pt b0_ 0), (2, pt b0_ 4), (3, g0_.many), (4, pt (sb g0_.slots) (so g0_.slots + a1.toNat * 4)), (5, pt (sb g0_.slots) (so g0_.slots + a1.toNat * 4)), (6, pt (sb g0_.slots) (so g0_.slots + a1.toNat * 4 + 1)), (7, vI x10.list), (8, pt (sb g0_.many) (so g0_.many + x10.list.toNat * 1)), (9, vI x12), (10, vI (i64 (x12 - 1))), (11, pt (sb g0_.many) (so g0_.many + x10.list.toNat * 1))] z ?_
 refine stage z z z z mk23_ [0, 1, 2, 3, 4, 5, 6, 7, 8, 9, 10, 11] [12] z z z (q_mv z z z (q_u z z (o_nc z) (q_fa z z fa138_4 z (q_ld z z 2 sc135 z z z (q_mv z z z (q_u z z (o_nc z) (q_fa z z fa140_1 z (q_u z z (o_ldO 1 1 sc3 z z hx10 z z) (q_u z z (o_ixO 0 Tryz.underlying135 (fun _ => by kernel_rfl) z z z hx12) (q_u z z (o_ldO0 0 sc3 z z hx12 z z) (q_u z z (o_bin z z (bI_sub x12 1)) (q_u z z (o_ixO 0 Tryz.underlying135 (fun _ => by kernel_rfl) z z z hx12) qn)))))))))))) ?_ (nxt z)
 refine ec (eo_u z (s_u (o_stO0 (c' := i64 (x12 - 1)) sc3 z z z hx12 z z z)) (Le.refl _) ?_) en
 refine stage z z z z mk23_ [] [] z z z qn en ?_
 intro _
 refine ex_sub (E' := []) trivial ?_
 refine x_end ?_
 obtain rfl := si hm13
 refine ex_st (fun _ h => st_pk 5 [2, 1, 3, 4, 0] (by decide) h) ?_
 exact x_r0 z (Le.refl _) ⟨_, z, z, z, z⟩
def Ch (a0 : Ae) (a1 : Int) (a2 : Int) : Option Ae :=
 (gi a0.slots a1).bind fun x4 => (gi a0.slots a2).bind fun x6 => (gi (ls a0.slots a1 (⟨x4.key, a2, x4.prev, x4.next⟩ : Ap)) a1).bind fun x8 => (gi (ls (ls a0.slots a1 (⟨x4.key, a2, x4.prev, x4.next⟩ : Ap)) a1 (⟨x8.key, x8.list, a2, x8.next⟩ : Ap)) a1).bind fun x10 => (gi (ls (ls (ls a0.slots a1 (⟨x4.key, a2, x4.prev, x4.next⟩ : Ap)) a1 (⟨x8.key, x8.list, a2, x8.next⟩ : Ap)) a1 (⟨x10.key, x10.list, x10.prev, x6.next⟩ : Ap)) a1).bind fun x12 => (gi (ls (ls (ls a0.slots a1 (⟨x4.key, a2, x4.prev, x4.next⟩ : Ap)) a1 (⟨x8.key, x8.list, a2, x8.next⟩ : Ap)) a1 (⟨x10.key, x10.list, x10.prev, x6.next⟩ : Ap)) x12.next).bind fun x14 => (gi (ls (ls (ls (ls a0.slots a1 (⟨x4.key, a2, x4.prev, x4.next⟩ : Ap)) a1 (⟨x8.key, x8.list, a2, x8.next⟩ : Ap)) a1 (⟨x10.key, x10.list, x10.prev, x6.next⟩ : Ap)) x12.next (⟨x14.key, x14.list, a1, x14.next⟩ : Ap)) a2).bind fun x16 => (gi a0.many a2).bind fun x18 => some (⟨a0.lists, ls (ls (ls (ls (ls a0.slots a1 (⟨x4.key, a2, x4.prev, x4.next⟩ : Ap)) a1 (⟨x8.key, x8.list, a2, x8.next⟩ : Ap)) a1 (⟨x10.key, x10.list, x10.prev, x6.next⟩ : Ap)) x12.next (⟨x14.key, x14.list, a1, x14.next⟩ : Ap)) a2 (⟨x16.key, x16.list, x16.prev, a1⟩ : Ap), a0.free, a0.at_, ls a0.many a2 (i64 (x18 + 1))⟩ : Ae)
theorem Ch.ok {G R F} (b0_ : Nat) (a0 : Ae) (g0_ : Ae.G) (a1 : Int) (a2 : Int) (r : Ae) (hm : Ch a0 a1 a2 = some r) : CO Tryz.prog 124 [pt b0_ 0, vI a1, vI a2] G R (Bk b0_ 138 (Ae.k a0 g0_) :: OwS true 140 4 Ap.c g0_.slots a0.slots :: OwS true 3 1 eI g0_.free a0.free :: OwM vS vI g0_.at_ a0.at_ :: OwS true 3 1 eI g0_.many a0.many :: F)
  (Ret fun u R' L' => u = .tuple #[] ∧ R' = R ∧ L' = Bk b0_ 138 (Ae.k r g0_) :: OwS true 140 4 Ap.c g0_.slots r.slots :: OwS true 3 1 eI g0_.free r.free :: OwM vS vI g0_.at_ r.at_ :: OwS true 3 1 eI g0_.many r.many :: F) := by
 unfold Ch at hm
 refine co_ofN (N := 60) Tryz.func124 z z ?_
 refine csr ?_
 refine r_mv z (r_nc z (r_fa fa138_1 z (r_ld 0 sc136 z z z (r_mv z ?_))))
 obtain ⟨x4, hx4, hm5⟩ := bs hm
 clear hm
 refine r_u (o_ixO 1 Tryz.underlying136 (fun _ => by kernel_rfl) z z z hx4) (r_as z ?_)
 refine nsr ?_
 refine r_mv z (r_mv z (r_mv z (r_mv z (r_mv z (r_mv z (r_nc z (r_fa fa138_1 z (r_ld 0 sc136 z z z (r_mv z ?_)))))))))
 obtain ⟨x6, hx6, hm7⟩ := bs hm5
 clear hm5
 refine r_u (o_ixO 1 Tryz.underlying136 (fun _ => by kernel_rfl) z z z hx6) (r_fa fa140_3 z (r_u (o_ldO 1 3 sc3 z z hx6 z z) (r_nc z (r_fa fa140_1 z ?_))))
 refine rl_st (fun _ h => mv1 h) ?_
 refine r_u0 (o_stO (c' := (⟨x4.key, a2, x4.prev, x4.next⟩ : Ap)) 1 sc3 z z z hx4 z z z) ?_
 refine r_nc z (r_fa fa140_2 z ?_)
 obtain ⟨x8, hx8, hm9⟩ := bs hm7
 clear hm7
 refine r_u0 (o_stO (c' := (⟨x8.key, x8.list, a2, x8.next⟩ : Ap)) 2 sc3 z z z hx8 z z z) ?_
 refine r_nc z (r_fa fa140_3 z ?_)
 obtain ⟨x10, hx10, hm11⟩ := bs hm9
 clear hm9
 refine r_u0 (o_stO (c' := (⟨x10.key, x10.list, x10.prev, x6.next⟩ : Ap)) 3 sc3 z z z hx10 z z z) ?_
 refine r_nil (x_seq (c_seq ?_))
 obtain ⟨x12, hx12, hm13⟩ := bs hm11
 clear hm11
 obtain ⟨x14, hx14, hm15⟩ := bs hm13
 clear hm13
 obtain ⟨x16, hx16, hm17⟩ := bs hm15
 clear hm15
 refine c_any mixed (effs := [17, 20]) (V := []) ?_
 refine stage_ext [(0, pt b0_ 0), (1, pt b0_ 0), (2, pt b0_ 1), (3, g0_.slots), (4, pt (sb g0_.slots) (so g0_.slots + a1.toNat * 4)), (5, pt (sb g0_.slots) (so g0_.slots + a1.toNat * 4)), (6, pt (sb g0_.slots) (so g0_.slots + a1.toNat * 4 + 3)), (7, vI x12.next), (8, pt b0_ 0), (9, pt b0_ 0), (10, pt b0_ 1), (11, g0_.slots), (12, vI a2), (13, vI a1), (14, vI a1), (15, pt (sb g0_.slots) (so g0_.slots + x12.next.toNat * 4)), (16, pt (sb g0_.slots) (so g0_.slots + x12.next.toNat * 4 + 2))] z ?_
 refine stage z z z z mk21_ [0, 1, 2, 3, 4, 5, 6, 7, 8, 9, 10, 11, 12, 13, 14, 15, 16] [17] z z z (q_mv z z z (q_u z z (o_nc z) (q_fa z z fa138_1 z (q_ld z z 1 sc136 z z z (q_mv z z z (q_u z z (o_nc z) (q_fa z z fa140_3 z (q_u z z (o_ldO 0 3 sc3 z z hx12 z z) (q_mv z z z (q_u z z (o_nc z) (q_fa z z fa138_1 z (q_ld z z 1 sc136 z z z (q_mv z z z (q_mv z z z (q_mv z z z (q_u z z (o_ixO 0 Tryz.underlying136 (fun _ => by kernel_rfl) z z z hx14) (q_fa z z fa140_2 z qn))))))))))))))))) ?_ (nxt z)
 refine ec (eo_u z (s_u (o_stO (c' := (⟨x14.key, x14.list, a1, x14.next⟩ : Ap)) 2 sc3 z z z hx14 z z z)) (Le.refl _) ?_) en
 refine stage_ext [(18, pt (sb g0_.slots) (so g0_.slots + a2.toNat * 4)), (19, pt (sb g0_.slots) (so g0_.slots + a2.toNat * 4 + 3))] z ?_
 refine stage z z z z mk21_ [12, 14, 18, 19] [20] z z z (q_mv z z z (q_mv z z z (q_u z z (o_ixO 0 Tryz.underlying136 (fun _ => by kernel_rfl) z z z hx16) (q_fa z z fa140_3 z qn)))) ?_ (nxt z)
 refine ec (eo_u z (s_u (o_stO (c' := (⟨x16.key, x16.list, x16.prev, a1⟩ : Ap)) 3 sc3 z z z hx16 z z z)) (Le.refl _) ?_) en
 refine stage z z z z mk21_ [] [] z z z qn en ?_
 intro _
 refine ex_sub (E' := [(0, pt b0_ 0), (2, vI a2)]) ⟨z, z, trivial⟩ ?_
 refine x_seq (c_reg ?_)
 refine r_mv z (r_nc z (r_fa fa138_4 z (r_ld 1 sc135 z z z (r_mv z ?_))))
 obtain ⟨x18, hx18, hm19⟩ := bs hm17
 clear hm17
 refine r_u (o_ixO 4 Tryz.underlying135 (fun _ => by kernel_rfl) z z z hx18) (r_u (o_ldO0 4 sc3 z z hx18 z z) (r_bin z z (bI_add x18 1) ?_))
 refine r_u (o_ixO 4 Tryz.underlying135 (fun _ => by kernel_rfl) z z z hx18) ?_
 refine rl_st (fun _ h => mv4 h) ?_
 refine r_u0 (o_stO0 (c' := i64 (x18 + 1)) sc3 z z z hx18 z z z) ?_
 refine r_nil ?_
 refine x_end ?_
 obtain rfl := si hm19
 refine ex_st (fun _ h => st_pk 5 [2, 1, 3, 4, 0] (by decide) h) ?_
 exact x_r0 z (Le.refl _) ⟨_, z, z, z, z⟩
def Aw (a0 : Ae) (a1 : Int) (a2 : Str) : Option (Bool × Ae) :=
 if (!(BT a0 a1) || decide (64 < (a2.length : Int))) then some (false, a0) else if (mget a0.at_ a2).isSome then (Cr a0 ((mget a0.at_ a2).getD (0 : Int))).bind fun r8 => (Ch r8 ((mget a0.at_ a2).getD (0 : Int)) a1).bind fun r10 => some (true, r10) else if ((a0.free.length : Int) == 0) then some (false, a0) else (gi a0.free (i64 ((a0.free.length : Int) - 1))).bind fun x14 => (sl a0.free 0 (i64 ((a0.free.length : Int) - 1))).bind fun l16 => (gi a0.slots x14).bind fun x18 => (Ch (⟨a0.lists, ls a0.slots x14 (⟨a2, x18.list, x18.prev, x18.next⟩ : Ap), l16, mput a0.at_ a2 x14, a0.many⟩ : Ae) x14 a1).bind fun r20 => some (true, r20)
theorem Aw.ok {G R F} (b0_ : Nat) (a0 : Ae) (g0_ : Ae.G) (a1 : Int) (a2 : Str) (r : Bool × Ae) (hm : Aw a0 a1 a2 = some r) : CO Tryz.prog 90 [pt b0_ 0, vI a1, vS a2] G R (Bk b0_ 138 (Ae.k a0 g0_) :: OwS true 140 4 Ap.c g0_.slots a0.slots :: OwS true 3 1 eI g0_.free a0.free :: OwM vS vI g0_.at_ a0.at_ :: OwS true 3 1 eI g0_.many a0.many :: F)
  (Ret fun u R' L' => ∃ (q0 : Ae.G), u = vB r.1 ∧ R' = R ∧ L' = Bk b0_ 138 (Ae.k r.2 q0) :: OwS true 140 4 Ap.c q0.slots r.2.slots :: OwS true 3 1 eI q0.free r.2.free :: OwM vS vI q0.at_ r.2.at_ :: OwS true 3 1 eI q0.many r.2.many :: F) := by
 unfold Aw at hm
 refine co_ofN (N := 80) Tryz.func90 z z ?_
 refine csr ?_
 refine r_as z ?_
 refine nssr ?_
 refine r_mv z (r_mv z ?_)
 refine r_c (s_w (o_call ca109 z (BT.ok b0_ a0 g0_ a1 _ z))) ?_
 refine r_u (o_not z) (r_mv z ?_)
 refine r_s (s_gf z z fun g => o_mv z) ?_
 refine r_s (s_gf z z fun g => o_lenS Tryz.underlying9 (evg z g)) ?_
 refine r_s (s_gf z z fun g => o_bin (evg z g) z (bI_gt (a2.length : Int) 64)) ?_
 refine r_u (o_or z z) ?_
 refine nsq ?_
 refine c_if (b := (!(BT a0 a1) || decide (64 < (a2.length : Int)))) z (fun h4 => ?_) fun h4 => ?_
 ·have hm5 := ift hm h4
  clear hm
  refine csr ?_
  refine r_as z ?_
  refine r_nil (x_seq (c_ret ?_))
  obtain rfl := si hm5
  exact x_r1 z (rv_t z) (Le.refl _) ⟨_, z, g0_, z, z, z⟩
 have hm5 := iff_ hm h4
 clear hm
 refine c_skip (x_seq (c_seq (csr ?_)))
 refine r_mv z (r_nc z (r_fa fa138_3 z (r_ld 0 sc134 z z z (r_mv z ?_))))
 refine r_u (o_lk (kv := vS) (vv := vI) (key := a2) (z0 := (0 : Int)) 3 Tryz.underlying134 (kok_S Tryz.underlying9) (fun _ => by kernel_rfl) z z z) (r_mv z ?_)
 refine r_ext z z ?_
 refine r_ext z z (r_as z (r_as z ?_))
 refine nsr ?_
 refine r_mv z ?_
 refine nsq ?_
 refine c_if (b := (mget a0.at_ a2).isSome) z (fun h6 => ?_) fun h6 => ?_
 ·have hm7 := ift hm5 h6
  clear hm5
  refine csr ?_
  refine r_mv z (r_mv z ?_)
  obtain ⟨r8, hr8, hm9⟩ := bs hm7
  clear hm7
  refine r_c (s_w (o_call ca123 z (Cr.ok b0_ a0 g0_ ((mget a0.at_ a2).getD (0 : Int)) r8 hr8))) ?_
  refine nsr ?_
  refine r_mv z (r_mv z (r_mv z ?_))
  obtain ⟨r10, hr10, hm11⟩ := bs hm9
  clear hm9
  refine r_c (s_w (o_call ca124 z (Ch.ok b0_ r8 g0_ ((mget a0.at_ a2).getD (0 : Int)) a1 r10 hr10))) ?_
  refine nsr ?_
  refine r_as z ?_
  refine r_nil (x_seq (c_ret ?_))
  obtain rfl := si hm11
  exact x_r1 z (rv_t z) (Le.refl _) ⟨_, z, g0_, z, z, z⟩
 have hm7 := iff_ hm5 h6
 clear hm5
 refine c_skip (x_seq (csr ?_))
 refine r_mv z (r_nc z (r_fa fa138_2 z (r_ld 0 sc135 z z z (r_u (o_lenO 2 Tryz.underlying135 z z) (r_as z ?_)))))
 refine nssr ?_
 refine r_mv z (r_bin z z (bI_eq (a0.free.length : Int) 0) ?_)
 refine nsq ?_
 refine c_if (b := ((a0.free.length : Int) == 0)) z (fun h12 => ?_) fun h12 => ?_
 ·have hm13 := ift hm7 h12
  clear hm7
  refine csr ?_
  refine r_as z ?_
  refine r_nil (x_seq (c_ret ?_))
  obtain rfl := si hm13
  exact x_r1 z (rv_t z) (Le.refl _) ⟨_, z, g0_, z, z, z⟩
 have hm13 := iff_ hm7 h12
 clear hm7
 refine c_skip (x_seq (csr ?_))
 refine r_mv z (r_nc z (r_fa fa138_2 z (r_ld 0 sc135 z z z (r_mv z (r_bin z z (bI_sub (a0.free.length : Int) 1) ?_)))))
 obtain ⟨x14, hx14, hm15⟩ := bs hm13
 clear hm13
 refine r_u (o_ixO 2 Tryz.underlying135 (fun _ => by kernel_rfl) z z z hx14) (r_u (o_ldO0 2 sc3 z z hx14 z z) (r_as z ?_))
 refine nsr ?_
 refine r_mv z (r_mv z (r_nc z (r_fa fa138_2 z (r_ld 0 sc135 z z z (r_mv z (r_bin z z (bI_sub (a0.free.length : Int) 1) ?_))))))
 obtain ⟨l16, hl16, hm17⟩ := bs hm15
 clear hm15
 refine rl_st (fun _ h => mv2 h) ?_
 refine r_u (o_slO Tryz.underlying135 (fun _ => by kernel_rfl) z z z hl16) (r_nc z (r_fa fa138_2 z ?_))
 refine rl_st (fun _ h => mv1 h) ?_
 refine r_u0 (ou_if (one_o 1 z) fun ho0 => o_st sc135 z z z ho0 z z) ?_
 refine nsr ?_
 refine r_mv z (r_nc z (r_fa fa138_1 z (r_ld 0 sc136 z z z (r_mv z (r_mv z ?_)))))
 obtain ⟨x18, hx18, hm19⟩ := bs hm17
 clear hm17
 refine r_u (o_ixO 2 Tryz.underlying136 (fun _ => by kernel_rfl) z z z hx18) (r_fa fa140_0 z ?_)
 refine rl_st (fun _ h => mv2 h) ?_
 refine r_u0 (o_stO0 (c' := (⟨a2, x18.list, x18.prev, x18.next⟩ : Ap)) sc9 z z z hx18 z z z) ?_
 refine nsr ?_
 refine r_mv z (r_nc z (r_fa fa138_3 z (r_ld 1 sc134 z z z (r_mv z (r_mv z ?_)))))
 refine rl_st (fun _ h => mv3 h) ?_
 refine r_u0 (o_mu (kv := vS) (vv := vI) (key := a2) (val := x14) Tryz.underlying134 (kok_S Tryz.underlying9) z z z z) ?_
 refine nsr ?_
 refine r_mv z (r_mv z (r_mv z ?_))
 obtain ⟨r20, hr20, hm21⟩ := bs hm19
 clear hm19
 refine rl_st (fun _ h => mv4 (mv3 (mv4 (mv1 (mv4 h))))) ?_
 refine r_c (s_w (o_call ca124 z (Ch.ok b0_ (⟨a0.lists, ls a0.slots x14 (⟨a2, x18.list, x18.prev, x18.next⟩ : Ap), l16, mput a0.at_ a2 x14, a0.many⟩ : Ae) (⟨g0_.slots, (sh g0_.free (i64 ((a0.free.length : Int) - 1)).toNat), g0_.at_, g0_.many⟩ : Ae.G) x14 a1 r20 hr20))) ?_
 refine nsr ?_
 refine r_as z ?_
 refine r_nil (x_seq (c_ret ?_))
 obtain rfl := si hm21
 exact x_r1 z (rv_t z) (Le.refl _) ⟨_, z, (⟨g0_.slots, (sh g0_.free (i64 ((a0.free.length : Int) - 1)).toNat), g0_.at_, g0_.many⟩ : Ae.G), z, z, z⟩
def Ce (a0 : Al) (a1 : Str) : Option (Bool × Al) :=
 (CL a0 a1).bind fun r3 => if !r3 then some (false, a0) else om a0.r (none) fun x7 => (Aw x7 1 a1).bind fun r15 => some (r15.1, (⟨a0.most, a0.target, (some r15.2)⟩ : Al))
theorem Ce.ok {G R F} (b0_ : Nat) (a0 : Al) (g0_ : Al.G) (a1 : Str) (r : Bool × Al) (hm : Ce a0 a1 = some r) : CO Tryz.prog 49 [pt b0_ 0, vS a1] G R (Bk b0_ 86 [vI a0.most, vI a0.target, g0_.r.1] :: rO (Ae.op g0_.r.2) g0_.r.1 a0.r :: F)
  (Ret fun u R' L' => ∃ (q0 : Al.G), u = vB r.1 ∧ R' = R ∧ L' = Bk b0_ 86 [vI r.2.most, vI r.2.target, q0.r.1] :: rO (Ae.op q0.r.2) q0.r.1 r.2.r :: F) := by
 obtain ⟨⟨pv1, g2⟩⟩ := g0_
 unfold Ce at hm
 refine co_ofN (N := 15) Tryz.func49 z z ?_
 refine csr ?_
 refine r_as z ?_
 refine nssr ?_
 refine r_mv z (r_mv z ?_)
 obtain ⟨r3, hr3, hm4⟩ := bs hm
 clear hm
 refine r_c (s_w (o_call ca37 z (CL.ok b0_ a0 (⟨(pv1, g2)⟩ : Al.G) a1 r3 hr3))) ?_
 refine r_u (o_not z) ?_
 refine nsq ?_
 refine c_if (b := !r3) z (fun h5 => ?_) fun h5 => ?_
 ·have hm6 := ift hm4 h5
  clear hm4
  refine csr ?_
  refine r_as z ?_
  refine r_nil (x_seq (c_ret ?_))
  obtain rfl := si hm6
  exact x_r1 z (rv_t z) (Le.refl _) ⟨_, z, (⟨(pv1, g2)⟩ : Al.G), z, z, z⟩
 have hm6 := iff_ hm4 h5
 clear hm4
 refine c_skip (x_seq (c_seq ?_))
 refine cd_st (fun _ h => mv1 h) ?_
 refine cd_opt (fun ho9 => ?_) (fun x7 b8 ho9 => ?_)
 ·rintro rfl
  have hm10 := om_n hm6 ho9
  clear hm6
  cases hm10
 rintro rfl
 have hm10 := om_s hm6 ho9
 clear hm6
 refine cd_st (fun _ h => st_star_o h) ?_
 refine c_reg ?_
 refine r_mv z (r_nc z (r_fa fa86_2 z (r_ld 5 sc82 z z z (r_mv z ?_))))
 obtain ⟨r15, hr15, hm21⟩ := bs hm10
 clear hm10
 refine r_sw (s_w (o_call ca90 z (Aw.ok b8 x7 g2 1 a1 r15 hr15))) ?_
 rintro _ R _ _ ⟨g16, rfl, rfl, rfl⟩
 refine r_as z ?_
 refine r_nil (x_seq (c_ret ?_))
 refine ex_st (fun _ h => st_some (f := Ae.op g16) (a := r15.2) (st_star_f (A := Ae.fl b8 r15.2 g16) h)) ?_
 obtain rfl := si hm21
 refine ex_st (fun _ h => st_pk 2 [1, 0] (by decide) h) ?_
 exact x_r1 z (rv_t z) (Le.refl _) ⟨_, z, (⟨(pt b8 0, g16)⟩ : Al.G), z, z, z⟩
def Aq (a0 : Ae) (a1 : Int) : Option Int :=
 if !(BT a0 a1) then some 0 else (gi a0.many a1).bind fun x6 => some x6
theorem Aq.ok {G R F} (b0_ : Nat) (a0 : Ae) (g0_ : Ae.G) (a1 : Int) (r : Int) (hm : Aq a0 a1 = some r) : CO Tryz.prog 73 [pt b0_ 0, vI a1] G R (Bk b0_ 138 (Ae.k a0 g0_) :: OwS true 140 4 Ap.c g0_.slots a0.slots :: OwS true 3 1 eI g0_.free a0.free :: OwM vS vI g0_.at_ a0.at_ :: OwS true 3 1 eI g0_.many a0.many :: F)
  (Ret fun u R' L' => u = vI r ∧ R' = R ∧ L' = Bk b0_ 138 (Ae.k a0 g0_) :: OwS true 140 4 Ap.c g0_.slots a0.slots :: OwS true 3 1 eI g0_.free a0.free :: OwM vS vI g0_.at_ a0.at_ :: OwS true 3 1 eI g0_.many a0.many :: F) := by
 unfold Aq at hm
 refine co_ofN (N := 16) Tryz.func73 z z ?_
 refine csr ?_
 refine r_as z ?_
 refine nssr ?_
 refine r_mv z (r_mv z ?_)
 refine r_c (s_w (o_call ca109 z (BT.ok b0_ a0 g0_ a1 _ z))) ?_
 refine r_u (o_not z) ?_
 refine nsq ?_
 refine c_if (b := !(BT a0 a1)) z (fun h4 => ?_) fun h4 => ?_
 ·have hm5 := ift hm h4
  clear hm
  refine csr ?_
  refine r_as z ?_
  refine r_nil (x_seq (c_ret ?_))
  obtain rfl := si hm5
  exact x_r1 z (rv_t z) (Le.refl _) ⟨_, z, z, z, z⟩
 have hm5 := iff_ hm h4
 clear hm
 refine c_skip (x_seq (csr ?_))
 refine r_mv z (r_nc z (r_fa fa138_4 z (r_ld 0 sc135 z z z (r_mv z ?_))))
 obtain ⟨x6, hx6, hm7⟩ := bs hm5
 clear hm5
 refine r_u (o_ixO 4 Tryz.underlying135 (fun _ => by kernel_rfl) z z z hx6) (r_u (o_ldO0 4 sc3 z z hx6 z z) (r_as z ?_))
 refine r_nil (x_seq (c_ret ?_))
 obtain rfl := si hm7
 exact x_r1 z (rv_t z) (Le.refl _) ⟨_, z, z, z, z⟩
def B0 (a0 : Al) : Option Int :=
 om a0.r (none) fun x3 => (Aq x3 0).bind fun r11 => (Aq x3 1).bind fun r13 => some (i64 (r11 + r13))
theorem B0.ok {G R F} (b0_ : Nat) (a0 : Al) (g0_ : Al.G) (r : Int) (hm : B0 a0 = some r) : CO Tryz.prog 33 [pt b0_ 0] G R (Bk b0_ 86 [vI a0.most, vI a0.target, g0_.r.1] :: rO (Ae.op g0_.r.2) g0_.r.1 a0.r :: F)
  (Ret fun u R' L' => u = vI r ∧ R' = R ∧ L' = Bk b0_ 86 [vI a0.most, vI a0.target, g0_.r.1] :: rO (Ae.op g0_.r.2) g0_.r.1 a0.r :: F) := by
 obtain ⟨⟨pv1, g2⟩⟩ := g0_
 unfold B0 at hm
 refine co_ofN (N := 16) Tryz.func33 z z ?_
 refine csr ?_
 refine r_as z ?_
 refine nssr ?_
 refine r_mv z (r_bin z z (bP_eqp Tryz.underlying60) ?_)
 refine nsq ?_
 refine c_ff z ?_
 refine c_skip (x_seq (c_seq ?_))
 refine cd_st (fun _ h => mv1 h) ?_
 refine cd_opt (fun ho5 => ?_) (fun x3 b4 ho5 => ?_)
 ·rintro rfl
  have hm6 := om_n hm ho5
  clear hm
  cases hm6
 rintro rfl
 have hm6 := om_s hm ho5
 clear hm
 refine cd_st (fun _ h => st_star_o h) ?_
 obtain ⟨r11, hr11, hm12⟩ := bs hm6
 clear hm6
 obtain ⟨r13, hr13, hm14⟩ := bs hm12
 clear hm12
 refine c_any mixed (effs := []) (V := []) ?_
 refine stage_ext [(0, pt b0_ 0), (1, pt b0_ 0), (2, pt b0_ 2), (3, pt b4 0), (4, vI r11), (5, pt b0_ 0), (6, pt b0_ 0), (7, pt b0_ 2), (8, pt b4 0), (9, vI r13), (10, vI (i64 (r11 + r13))), (11, vI (i64 (r11 + r13)))] z ?_
 refine stage z z z z mk24_ [0, 1, 2, 3, 4, 5, 6, 7, 8, 9, 10, 11] [] z z z (q_mv z z z (q_u z z (o_nc z) (q_fa z z fa86_2 z (q_ld z z 5 sc82 z z z (q_u z z (o_callqP ca73 z (Aq.ok b4 x3 g2 0 r11 hr11) (fun _ h => st_pk 6 [0, 1, 2, 3, 4, 5] (by decide) h) (fun _ h => st_pk 6 [0, 1, 2, 3, 4, 5] (by decide) h)) (q_mv z z z (q_u z z (o_nc z) (q_fa z z fa86_2 z (q_ld z z 5 sc82 z z z (q_u z z (o_callqP ca73 z (Aq.ok b4 x3 g2 1 r13 hr13) (fun _ h => st_pk 6 [0, 1, 2, 3, 4, 5] (by decide) h) (fun _ h => st_pk 6 [0, 1, 2, 3, 4, 5] (by decide) h)) (q_u z z (o_bin z z (bI_add r11 r13)) (q_u z z (o_as z) qn)))))))))))) en ?_
 intro _
 refine ex_sub (E' := [(2, vI (i64 (r11 + r13)))]) ⟨z, trivial⟩ ?_
 refine x_seq (c_ret ?_)
 refine ex_st (fun _ h => st_some (f := Ae.op g2) (a := x3) (st_star_f (A := Ae.fl b4 x3 g2) h)) ?_
 refine ex_st (fun _ h => st_back ho5 h) ?_
 obtain rfl := si hm14
 refine ex_st (fun _ h => st_pk 2 [1, 0] (by decide) h) ?_
 exact x_r1 z (rv_t z) (Le.refl _) ⟨_, z, z, z, z⟩
def Ay (a0 : Ae) (a1 : Int) : Option (Str × Bool) :=
 (Aq a0 a1).bind fun r4 => if (r4 == 0) then some ([], false) else (gi a0.slots a1).bind fun x8 => (gi a0.slots x8.prev).bind fun x10 => some (x10.key, true)
theorem Ay.ok {G R F} (b0_ : Nat) (a0 : Ae) (g0_ : Ae.G) (a1 : Int) (r : Str × Bool) (hm : Ay a0 a1 = some r) : CO Tryz.prog 93 [pt b0_ 0, vI a1] G R (Bk b0_ 138 (Ae.k a0 g0_) :: OwS true 140 4 Ap.c g0_.slots a0.slots :: OwS true 3 1 eI g0_.free a0.free :: OwM vS vI g0_.at_ a0.at_ :: OwS true 3 1 eI g0_.many a0.many :: F)
  (Ret fun u R' L' => u = .tuple #[vS r.1, vB r.2] ∧ R' = R ∧ L' = Bk b0_ 138 (Ae.k a0 g0_) :: OwS true 140 4 Ap.c g0_.slots a0.slots :: OwS true 3 1 eI g0_.free a0.free :: OwM vS vI g0_.at_ a0.at_ :: OwS true 3 1 eI g0_.many a0.many :: F) := by
 unfold Ay at hm
 refine co_ofN (N := 25) Tryz.func93 z z ?_
 refine csr ?_
 refine r_as z (r_as z ?_)
 refine nssr ?_
 refine r_mv z (r_mv z ?_)
 obtain ⟨r4, hr4, hm5⟩ := bs hm
 clear hm
 refine r_c (s_w (o_call ca73 z (Aq.ok b0_ a0 g0_ a1 r4 hr4))) ?_
 refine r_bin z z (bI_eq r4 0) ?_
 refine nsq ?_
 refine c_if (b := (r4 == 0)) z (fun h6 => ?_) fun h6 => ?_
 ·have hm7 := ift hm5 h6
  clear hm5
  refine csr ?_
  refine r_as z (r_as z ?_)
  refine r_nil (x_seq (c_ret ?_))
  obtain rfl := si hm7
  exact x_r2 z (rv_t z) (rv_t z) (Le.refl _) ⟨_, z, z, z, z⟩
 have hm7 := iff_ hm5 h6
 clear hm5
 refine c_skip (x_seq (c_seq ?_))
 obtain ⟨x8, hx8, hm9⟩ := bs hm7
 clear hm7
 obtain ⟨x10, hx10, hm11⟩ := bs hm9
 clear hm9
 refine c_any mixed (effs := []) (V := []) ?_
 refine stage_ext [(0, pt b0_ 0), (1, pt b0_ 0), (2, pt b0_ 1), (3, g0_.slots), (4, pt b0_ 0), (5, pt b0_ 0), (6, pt b0_ 1), (7, g0_.slots), (8, vI a1), (9, pt (sb g0_.slots) (so g0_.slots + a1.toNat * 4)), (10, pt (sb g0_.slots) (so g0_.slots + a1.toNat * 4 + 2)), (11, vI x8.prev), (12, pt (sb g0_.slots) (so g0_.slots + x8.prev.toNat * 4)), (13, pt (sb g0_.slots) (so g0_.slots + x8.prev.toNat * 4)), (14, vS x10.key), (15, vS x10.key), (16, vB true)] z ?_
 refine stage z z z z [0, 1, 3, 7, 0, 16, 48, 112, 0, 496, 1008, 2032, 4095, 8191, 16383, 32767, 65535] [0, 1, 2, 3, 4, 5, 6, 7, 8, 9, 10, 11, 12, 13, 14, 15, 16] [] z z z (q_mv z z z (q_u z z (o_nc z) (q_fa z z fa138_1 z (q_ld z z 0 sc136 z z z (q_mv z z z (q_u z z (o_nc z) (q_fa z z fa138_1 z (q_ld z z 0 sc136 z z z (q_mv z z z (q_u z z (o_ixO 1 Tryz.underlying136 (fun _ => by kernel_rfl) z z z hx8) (q_fa z z fa140_2 z (q_u z z (o_ldO 1 2 sc3 z z hx8 z z) (q_u z z (o_ixO 1 Tryz.underlying136 (fun _ => by kernel_rfl) z z z hx10) (q_fa z z fa140_0 z (q_u z z (o_ldO0 1 sc9 z z hx10 z z) (q_u z z (o_as z) (q_u z z (o_as z) qn))))))))))))))))) en ?_
 intro _
 refine ex_sub (E' := [(4, vS x10.key), (5, vB true)]) ⟨z, z, trivial⟩ ?_
 refine x_seq (c_ret ?_)
 obtain rfl := si hm11
 exact x_r2 z (rv_t z) (rv_t z) (Le.refl _) ⟨_, z, z, z, z⟩
def Bt (a0 : Al) (a1 : Bool) : Option (List Str × Al) :=
 om a0.r (none) fun x3 => (Aq x3 0).bind fun r11 => Option.bind (if decide (0 < r11) then Option.bind (if (decide (a0.target < r11) || (a1 && (r11 == a0.target))) then some true else (Aq x3 1).bind fun r43 => some (r43 == 0)) fun p37 => some p37 else some false) fun p13 => Option.bind (if p13 then some (0, 2) else some (1, 3)) fun p17 => (Ay x3 p17.1).bind fun r21 => if !r21.2 then some ([], a0) else (Aw x3 p17.2 r21.1).bind fun r25 => some ([r21.1], (⟨a0.most, a0.target, (some r25.2)⟩ : Al))
theorem Bt.ok {G R F} (b0_ : Nat) (a0 : Al) (g0_ : Al.G) (a1 : Bool) (r : List Str × Al) (hm : Bt a0 a1 = some r) : CO Tryz.prog 95 [pt b0_ 0, vB a1] G R (Bk b0_ 86 [vI a0.most, vI a0.target, g0_.r.1] :: rO (Ae.op g0_.r.2) g0_.r.1 a0.r :: F)
  (Ret fun u R' L' => ∃ (p0 : Value) (q0 : Al.G), u = p0 ∧ R' = R ∧ L' = OwS true 9 1 eS p0 r.1 :: Bk b0_ 86 [vI r.2.most, vI r.2.target, q0.r.1] :: rO (Ae.op q0.r.2) q0.r.1 r.2.r :: F) := by
 obtain ⟨⟨pv1, g2⟩⟩ := g0_
 unfold Bt at hm
 refine co_ofN (N := 64) Tryz.func95 z z ?_
 refine csr ?_
 refine r_as z ?_
 refine nsr ?_
 refine r_as z (r_as z ?_)
 refine r_nil (x_seq (c_seq (c_seq ?_)))
 refine cd_st (fun _ h => mv1 h) ?_
 refine cd_opt (fun ho5 => ?_) (fun x3 b4 ho5 => ?_)
 ·rintro rfl
  have hm6 := om_n hm ho5
  clear hm
  cases hm6
 rintro rfl
 have hm6 := om_s hm ho5
 clear hm
 refine cd_st (fun _ h => st_star_o h) ?_
 refine c_reg ?_
 refine r_mv z (r_nc z (r_fa fa86_2 z (r_ld 5 sc82 z z z ?_)))
 obtain ⟨r11, hr11, hm12⟩ := bs hm6
 clear hm6
 refine r_c (s_w (o_call ca73 z (Aq.ok b4 x3 g2 0 r11 hr11))) ?_
 refine r_as z ?_
 refine r_nil (x_seq (c_seq ?_))
 obtain ⟨p13, hp14, hm15⟩ := bs hm12
 refine cd_join (E' := [(0, pt b0_ 0), (5, vI 1), (6, vI 3), (43, vB p13)]) (L' := Bk b4 138 (Ae.k x3 g2) :: Bk b0_ 86 [vI a0.most, vI a0.target, pt b4 0] :: OwS true 140 4 Ap.c g2.slots x3.slots :: OwS true 3 1 eI g2.free x3.free :: OwM vS vI g2.at_ x3.at_ :: OwS true 3 1 eI g2.many x3.many :: F) ?_ fun K16 => ?_
 ·refine x_seq ?_
  obtain ⟨p17, hp18, hm19⟩ := bs hm15
  refine cd_join (E' := [(0, pt b0_ 0), (5, vI p17.1), (6, vI p17.2)]) (L' := Bk b4 138 (Ae.k x3 g2) :: Bk b0_ 86 [vI a0.most, vI a0.target, pt b4 0] :: OwS true 140 4 Ap.c g2.slots x3.slots :: OwS true 3 1 eI g2.free x3.free :: OwM vS vI g2.at_ x3.at_ :: OwS true 3 1 eI g2.many x3.many :: F) ?_ fun K20 => ?_
  rotate_left
  ·refine c_if (b := p13) z (fun h33 => ?_) fun h33 => ?_
   ·have hm34 := ift hp18 h33
    clear hp18
    refine c_reg ?_
    refine r_as z (r_as z ?_)
    refine r_nil ?_
    obtain rfl := si hm34
    exact x_sub K20 ⟨z, z, z, trivial⟩ (fun _ h => st_pk 6 [0, 1, 2, 3, 4, 5] (by decide) h)
   have hm34 := iff_ hp18 h33
   clear hp18
   refine c_skip ?_
   obtain rfl := si hm34
   exact x_sub K20 ⟨z, z, z, trivial⟩ (fun _ h => st_pk 6 [0, 1, 2, 3, 4, 5] (by decide) h)
  refine x_seq (csr ?_)
  refine r_mv z (r_nc z (r_fa fa86_2 z (r_ld 1 sc82 z z z (r_mv z ?_))))
  obtain ⟨r21, hr21, hm22⟩ := bs hm19
  clear hm19
  refine rl_st (fun _ h => mv4 (mv5 (mv5 (mv5 (mv5 h))))) ?_
  refine r_c (s_w (o_call ca93 z (Ay.ok b4 x3 g2 p17.1 r21 hr21))) ?_
  refine r_mv z ?_
  refine r_ext z z ?_
  refine r_ext z z (r_as z (r_as z ?_))
  refine nssr ?_
  refine r_mv z ?_
  refine r_u (o_not z) ?_
  refine nsq ?_
  refine c_if (b := !r21.2) z (fun h23 => ?_) fun h23 => ?_
  ·have hm24 := ift hm22 h23
   clear hm22
   refine csr ?_
   refine r_as z ?_
   refine r_nil (x_seq (c_ret ?_))
   refine ex_st (fun _ h => st_nil (ap := true) (T := 9) (sz := 1) (en := eS) h) ?_
   refine ex_st (fun _ h => mv5 (mv5 (mv5 (mv5 (mv5 h))))) ?_
   refine ex_st (fun _ h => st_some (f := Ae.op g2) (a := x3) (st_star_f (A := Ae.fl b4 x3 g2) h)) ?_
   refine ex_st (fun _ h => st_back ho5 h) ?_
   obtain rfl := si hm24
   refine ex_st (fun _ h => st_pk 3 [1, 2, 0] (by decide) h) ?_
   exact x_r1 z (rv_t z) (Le.refl _) ⟨_, z, (.slice none 0 0), (⟨(pt b4 0, g2)⟩ : Al.G), z, z, z⟩
  have hm24 := iff_ hm22 h23
  clear hm22
  refine c_skip (x_seq (csr ?_))
  refine r_mv z (r_nc z (r_fa fa86_2 z (r_ld 5 sc82 z z z (r_mv z (r_mv z ?_)))))
  obtain ⟨r25, hr25, hm31⟩ := bs hm24
  clear hm24
  refine r_sw (s_w (o_call ca90 z (Aw.ok b4 x3 g2 p17.2 r21.1 r25 hr25))) ?_
  rintro _ R _ _ ⟨g26, rfl, rfl, rfl⟩
  refine nsr ?_
  refine r_mv z ?_
  refine r_sw (s_w (o_bsl (en := eS) (sz := 1) (e := 9) (cs := [vS r21.1]) (r := [r21.1]) z (fun _ => by kernel_rfl) z (by decide) z (fun _ => z))) ?_
  rintro v32 R _ _ ⟨rfl, rfl⟩
  refine r_as z ?_
  refine r_nil (x_seq (c_ret ?_))
  refine ex_st (fun _ h => mv5 (mv5 (mv5 (mv5 (mv5 h))))) ?_
  refine ex_st (fun _ h => st_some (f := Ae.op g26) (a := r25.2) (st_star_f (A := Ae.fl b4 r25.2 g26) h)) ?_
  obtain rfl := si hm31
  refine ex_st (fun _ h => st_pk 3 [1, 2, 0] (by decide) h) ?_
  exact x_r1 z (rv_t z) (Le.refl _) ⟨_, z, v32, (⟨(pt b4 0, g26)⟩ : Al.G), z, z, z⟩
 refine cd_by (decide (0 < r11)) (fun h35 => ?_) fun h35 => ?_
 rotate_left
 ·have hm36 := iff_ hp14 h35
  clear hp14
  refine c_reg ?_
  refine r_mv z (r_bin z z (bI_gt r11 0) (r_mv z ?_))
  refine r_s (s_n z z h35) ?_
  refine r_s (s_n z z h35) ?_
  refine r_s (s_n z z h35) ?_
  refine r_s (s_n z z h35) ?_
  refine r_s (s_n z z h35) ?_
  refine r_s (s_n z z h35) ?_
  refine r_s (s_n z z h35) ?_
  refine r_s (s_nu z z) ?_
  refine r_s (s_nu z z) ?_
  refine r_s (s_nu z z) ?_
  refine r_s (s_nu z z) ?_
  refine r_s (s_nu z z) ?_
  refine r_s (s_nu z z) ?_
  refine r_s (s_nu z z) ?_
  refine r_s (s_nu z z) ?_
  refine r_s (s_nu z z) ?_
  refine r_s (s_n z z h35) ?_
  refine r_s (s_n z z h35) ?_
  refine r_s (s_nu z z) ?_
  refine r_s (s_nu z z) ?_
  refine r_s (s_nu z z) ?_
  refine r_s (s_nu z z) ?_
  refine r_s (s_nu z z) ?_
  refine r_s (s_nu z z) ?_
  refine r_s (s_n z z h35) ?_
  refine r_u (o_pf z h35 z) ?_
  refine r_nil ?_
  obtain rfl := si hm36
  exact x_sub K16 ⟨z, z, z, z, trivial⟩ (fun _ h => st_pk 6 [0, 5, 1, 2, 3, 4] (by decide) h)
 have hm36 := ift hp14 h35
 clear hp14
 obtain ⟨p37, hp38, hm39⟩ := bs hm36
 refine cd_join (E' := [(0, pt b0_ 0), (5, vI 1), (6, vI 3), (43, vB p37)]) (L' := Bk b4 138 (Ae.k x3 g2) :: Bk b0_ 86 [vI a0.most, vI a0.target, pt b4 0] :: OwS true 140 4 Ap.c g2.slots x3.slots :: OwS true 3 1 eI g2.free x3.free :: OwM vS vI g2.at_ x3.at_ :: OwS true 3 1 eI g2.many x3.many :: F) ?_ fun K40 => ?_
 ·obtain rfl := si hm39
  exact x_sub K16 ⟨z, z, z, z, trivial⟩ (fun _ h => st_pk 6 [0, 1, 2, 3, 4, 5] (by decide) h)
 refine cd_by (decide (a0.target < r11) || (a1 && (r11 == a0.target))) (fun h41 => ?_) fun h41 => ?_
 ·have hm42 := ift hp38 h41
  clear hp38
  refine c_reg ?_
  refine r_mv z (r_bin z z (bI_gt r11 0) (r_mv z ?_))
  refine r_s (s_y z z h35 (o_mv z)) ?_
  refine r_s (s_y z z h35 (o_mv z)) ?_
  refine r_s (s_y z z h35 (o_nc z)) ?_
  refine r_s (s_y z z h35 (o_fa fa86_1 z)) ?_
  refine r_s (s_y z z h35 (o_ld 5 sc3 z z z)) ?_
  refine r_s (s_y z z h35 (o_bin z z (bI_gt r11 a0.target))) ?_
  refine r_s (s_y z z h35 (o_mv z)) ?_
  refine r_s (s_gf z z fun g => o_mv z) ?_
  refine r_s (s_gf z z fun g => o_mv (evg z g)) ?_
  refine r_s (s_ggt z z fun g => o_mv z) ?_
  refine r_s (s_ggt z z fun g => o_mv z) ?_
  refine r_s (s_ggt z z fun g => o_nc (evg z g)) ?_
  refine r_s (s_ggt z z fun g => o_fa fa86_1 (evg z g)) ?_
  refine r_s (s_ggt z z fun g => o_ld 5 sc3 (evg z g) z z) ?_
  refine r_s (s_ggt z z fun g => o_bin (evg z g) (evg z g) (bI_eq r11 a0.target)) ?_
  refine r_s (s_gf z z fun g => o_and (evg z g) (evg2 z g)) ?_
  refine r_s (s_y z z h35 (o_or z z)) ?_
  refine r_s (s_y z z h35 (o_mv z)) ?_
  refine r_s (s_n z z h41) ?_
  refine r_s (s_n z z h41) ?_
  refine r_s (s_n z z h41) ?_
  refine r_s (s_n z z h41) ?_
  refine r_s (s_n z z h41) ?_
  refine r_s (s_n z z h41) ?_
  refine r_s (s_y z z h35 (o_pt z h41 z)) ?_
  refine r_u (o_pt z h35 z) ?_
  refine r_nil ?_
  obtain rfl := si hm42
  exact x_sub K40 ⟨z, z, z, z, trivial⟩ (fun _ h => st_pk 6 [0, 5, 1, 2, 3, 4] (by decide) h)
 have hm42 := iff_ hp38 h41
 clear hp38
 refine c_reg ?_
 refine r_mv z (r_bin z z (bI_gt r11 0) (r_mv z ?_))
 refine r_s (s_y z z h35 (o_mv z)) ?_
 refine r_s (s_y z z h35 (o_mv z)) ?_
 refine r_s (s_y z z h35 (o_nc z)) ?_
 refine r_s (s_y z z h35 (o_fa fa86_1 z)) ?_
 refine r_s (s_y z z h35 (o_ld 5 sc3 z z z)) ?_
 refine r_s (s_y z z h35 (o_bin z z (bI_gt r11 a0.target))) ?_
 refine r_s (s_y z z h35 (o_mv z)) ?_
 refine r_s (s_gf z z fun g => o_mv z) ?_
 refine r_s (s_gf z z fun g => o_mv (evg z g)) ?_
 refine r_s (s_ggt z z fun g => o_mv z) ?_
 refine r_s (s_ggt z z fun g => o_mv z) ?_
 refine r_s (s_ggt z z fun g => o_nc (evg z g)) ?_
 refine r_s (s_ggt z z fun g => o_fa fa86_1 (evg z g)) ?_
 refine r_s (s_ggt z z fun g => o_ld 5 sc3 (evg z g) z z) ?_
 refine r_s (s_ggt z z fun g => o_bin (evg z g) (evg z g) (bI_eq r11 a0.target)) ?_
 refine r_s (s_gf z z fun g => o_and (evg z g) (evg2 z g)) ?_
 refine r_s (s_y z z h35 (o_or z z)) ?_
 refine r_s (s_y z z h35 (o_mv z)) ?_
 refine r_s (s_y z z h41 (o_mv z)) ?_
 refine r_s (s_y z z h41 (o_nc z)) ?_
 refine r_s (s_y z z h41 (o_fa fa86_2 z)) ?_
 refine r_s (s_y z z h41 (o_ld 5 sc82 z z z)) ?_
 obtain ⟨r43, hr43, hm44⟩ := bs hm42
 clear hm42
 refine r_c (s_yw z z h41 (o_call ca73 z (Aq.ok b4 x3 g2 1 r43 hr43))) ?_
 refine r_s (s_y z z h41 (o_bin z z (bI_eq r43 0))) ?_
 refine r_s (s_y z z h35 (o_pf z h41 z)) ?_
 refine r_u (o_pt z h35 z) ?_
 refine r_nil ?_
 obtain rfl := si hm44
 exact x_sub K40 ⟨z, z, z, z, trivial⟩ (fun _ h => st_pk 6 [0, 5, 1, 2, 3, 4] (by decide) h)
def Dc (a0 : Al) (a1 : Str) (a2 : Int) : Option (List Str × Al) :=
 om a0.r (none) fun x3 => (Aq x3 2).bind fun r11 => (Aq x3 3).bind fun r13 => Option.bind (if (a2 == 2) then if r11 ≠ 0 then some (if (i64 (a0.target + (if 1 < (i64 (r13.tdiv r11)) then i64 (r13.tdiv r11) else 1))) < a0.most then i64 (a0.target + (if 1 < (i64 (r13.tdiv r11)) then i64 (r13.tdiv r11) else 1)) else a0.most) else none else if r13 ≠ 0 then some (if 0 < (i64 (a0.target - (if 1 < (i64 (r11.tdiv r13)) then i64 (r11.tdiv r13) else 1))) then i64 (a0.target - (if 1 < (i64 (r11.tdiv r13)) then i64 (r11.tdiv r13) else 1)) else 0) else none) fun p15 => (B0 (⟨a0.most, p15, (some x3)⟩ : Al)).bind fun r19 => Option.bind (if decide (a0.most ≤ r19) then (Bt (⟨a0.most, p15, (some x3)⟩ : Al) (a2 == 3)).bind fun r47 => some (r47.1, r47.2) else some ([], (⟨a0.most, p15, (some x3)⟩ : Al))) fun p21 => om p21.2.r (none) fun x30 => (Aw x30 1 a1).bind fun r38 => some (p21.1, (⟨p21.2.most, p21.2.target, (some r38.2)⟩ : Al))
theorem Dc.ok {G R F} (b0_ : Nat) (a0 : Al) (g0_ : Al.G) (a1 : Str) (a2 : Int) (r : List Str × Al) (hm : Dc a0 a1 a2 = some r) : CO Tryz.prog 96 [pt b0_ 0, vS a1, vI a2] G R (Bk b0_ 86 [vI a0.most, vI a0.target, g0_.r.1] :: rO (Ae.op g0_.r.2) g0_.r.1 a0.r :: F)
  (Ret fun u R' L' => ∃ (p0 : Value) (q0 : Al.G), u = p0 ∧ R' = R ∧ L' = OwS true 9 1 eS p0 r.1 :: Bk b0_ 86 [vI r.2.most, vI r.2.target, q0.r.1] :: rO (Ae.op q0.r.2) q0.r.1 r.2.r :: F) := by
 obtain ⟨⟨pv1, g2⟩⟩ := g0_
 unfold Dc at hm
 refine co_ofN (N := 70) Tryz.func96 z z ?_
 refine csr ?_
 refine r_as z ?_
 refine r_nil (x_seq (c_seq ?_))
 refine cd_st (fun _ h => mv1 h) ?_
 refine cd_opt (fun ho5 => ?_) (fun x3 b4 ho5 => ?_)
 ·rintro rfl
  have hm6 := om_n hm ho5
  clear hm
  cases hm6
 rintro rfl
 have hm6 := om_s hm ho5
 clear hm
 refine cd_st (fun _ h => st_star_o h) ?_
 obtain ⟨r11, hr11, hm12⟩ := bs hm6
 clear hm6
 obtain ⟨r13, hr13, hm14⟩ := bs hm12
 clear hm12
 refine c_any mixed (effs := []) (V := []) ?_
 refine stage_ext [(0, pt b0_ 0), (1, pt b0_ 0), (2, pt b0_ 2), (3, pt b4 0), (4, vI r11), (5, pt b0_ 0), (6, pt b0_ 0), (7, pt b0_ 2), (8, pt b4 0), (9, vI r13), (10, vI r11), (11, vI r13)] z ?_
 refine stage z z z z mk24_ [0, 1, 2, 3, 4, 5, 6, 7, 8, 9, 10, 11] [] z z z (q_mv z z z (q_u z z (o_nc z) (q_fa z z fa86_2 z (q_ld z z 5 sc82 z z z (q_u z z (o_callqP ca73 z (Aq.ok b4 x3 g2 2 r11 hr11) (fun _ h => st_pk 6 [0, 1, 2, 3, 4, 5] (by decide) h) (fun _ h => st_pk 6 [0, 1, 2, 3, 4, 5] (by decide) h)) (q_mv z z z (q_u z z (o_nc z) (q_fa z z fa86_2 z (q_ld z z 5 sc82 z z z (q_u z z (o_callqP ca73 z (Aq.ok b4 x3 g2 3 r13 hr13) (fun _ h => st_pk 6 [0, 1, 2, 3, 4, 5] (by decide) h) (fun _ h => st_pk 6 [0, 1, 2, 3, 4, 5] (by decide) h)) (q_u z z (o_as z) (q_u z z (o_as z) qn)))))))))))) en ?_
 intro _
 refine ex_sub (E' := [(0, pt b0_ 0), (1, vS a1), (2, vI a2), (7, vI r11), (8, vI r13)]) ⟨z, z, z, z, z, trivial⟩ ?_
 refine x_seq (c_seq (csr ?_))
 refine r_mv z (r_bin z z (bI_eq a2 2) ?_)
 refine nsq ?_
 obtain ⟨p15, hp16, hm17⟩ := bs hm14
 refine cd_join (E' := [(0, pt b0_ 0), (1, vS a1), (2, vI a2)]) (L' := Bk b0_ 86 [vI a0.most, vI p15, pt b4 0] :: Bk b4 138 (Ae.k x3 g2) :: OwS true 140 4 Ap.c g2.slots x3.slots :: OwS true 3 1 eI g2.free x3.free :: OwM vS vI g2.at_ x3.at_ :: OwS true 3 1 eI g2.many x3.many :: F) ?_ fun K18 => ?_
 rotate_left
 ·refine c_if (b := (a2 == 2)) z (fun h54 => ?_) fun h54 => ?_
  ·have hm55 := ift hp16 h54
   clear hp16
   obtain ⟨h56, hm57⟩ := ig hm55
   clear hm55
   refine c_any mixed (effs := [17]) (V := []) ?_
   refine stage_st (fun _ h => mv5 h) ?_
   refine stage_ext [(0, pt b0_ 0), (1, pt b0_ 0), (2, pt b0_ 0), (3, pt b0_ 0), (4, vI a0.most), (5, pt b0_ 0), (6, pt b0_ 0), (7, pt b0_ 1), (8, vI a0.target), (9, vI r13), (10, vI r11), (11, vI (i64 (r13.tdiv r11))), (12, vI (if 1 < (i64 (r13.tdiv r11)) then i64 (r13.tdiv r11) else 1)), (13, vI (i64 (a0.target + (if 1 < (i64 (r13.tdiv r11)) then i64 (r13.tdiv r11) else 1)))), (14, vI (if (i64 (a0.target + (if 1 < (i64 (r13.tdiv r11)) then i64 (r13.tdiv r11) else 1))) < a0.most then i64 (a0.target + (if 1 < (i64 (r13.tdiv r11)) then i64 (r13.tdiv r11) else 1)) else a0.most)), (15, pt b0_ 0), (16, pt b0_ 1)] z ?_
   refine stage z z z z mk9_ [0, 1, 2, 3, 4, 5, 6, 7, 8, 9, 10, 11, 12, 13, 14, 15, 16] [17] z z z (q_mv z z z (q_mv z z z (q_u z z (o_nc z) (q_fa z z fa86_0 z (q_ld z z 0 sc3 z z z (q_mv z z z (q_u z z (o_nc z) (q_fa z z fa86_1 z (q_ld z z 0 sc3 z z z (q_mv z z z (q_mv z z z (q_u z z (o_bin z z (bI_quo r13 r11 h56)) (q_u z z (o_maxI z z) (q_u z z (o_bin z z (bI_add a0.target (if 1 < (i64 (r13.tdiv r11)) then i64 (r13.tdiv r11) else 1))) (q_u z z (o_minI z z) (q_u z z (o_nc z) (q_fa z z fa86_1 z qn))))))))))))))))) ?_ (nxt z)
   refine ec (eo_u z (s_u (o_st sc3 z z z z z z)) (Le.refl _) ?_) en
   refine stage z z z z mk9_ [] [] z z z qn en ?_
   intro _
   refine ex_sub (E' := [(0, pt b0_ 0), (1, vS a1), (2, vI a2)]) ⟨z, z, z, trivial⟩ ?_
   obtain rfl := si hm57
   exact x_sub K18 ⟨z, z, z, trivial⟩ (fun _ h => st_pk 6 [0, 1, 2, 3, 4, 5] (by decide) h)
  have hm55 := iff_ hp16 h54
  clear hp16
  obtain ⟨h58, hm59⟩ := ig hm55
  clear hm55
  refine c_any mixed (effs := [13]) (V := []) ?_
  refine stage_st (fun _ h => mv5 h) ?_
  refine stage_ext [(0, pt b0_ 0), (1, pt b0_ 0), (2, pt b0_ 0), (3, pt b0_ 1), (4, vI a0.target), (5, vI r11), (6, vI r13), (7, vI (i64 (r11.tdiv r13))), (8, vI (if 1 < (i64 (r11.tdiv r13)) then i64 (r11.tdiv r13) else 1)), (9, vI (i64 (a0.target - (if 1 < (i64 (r11.tdiv r13)) then i64 (r11.tdiv r13) else 1)))), (10, vI (if 0 < (i64 (a0.target - (if 1 < (i64 (r11.tdiv r13)) then i64 (r11.tdiv r13) else 1))) then i64 (a0.target - (if 1 < (i64 (r11.tdiv r13)) then i64 (r11.tdiv r13) else 1)) else 0)), (11, pt b0_ 0), (12, pt b0_ 1)] z ?_
  refine stage z z z z mk8_ [0, 1, 2, 3, 4, 5, 6, 7, 8, 9, 10, 11, 12] [13] z z z (q_mv z z z (q_mv z z z (q_u z z (o_nc z) (q_fa z z fa86_1 z (q_ld z z 0 sc3 z z z (q_mv z z z (q_mv z z z (q_u z z (o_bin z z (bI_quo r11 r13 h58)) (q_u z z (o_maxI z z) (q_u z z (o_bin z z (bI_sub a0.target (if 1 < (i64 (r11.tdiv r13)) then i64 (r11.tdiv r13) else 1))) (q_u z z (o_maxI z z) (q_u z z (o_nc z) (q_fa z z fa86_1 z qn))))))))))))) ?_ (nxt z)
  refine ec (eo_u z (s_u (o_st sc3 z z z z z z)) (Le.refl _) ?_) en
  refine stage z z z z mk8_ [] [] z z z qn en ?_
  intro _
  refine ex_sub (E' := [(0, pt b0_ 0), (1, vS a1), (2, vI a2)]) ⟨z, z, z, trivial⟩ ?_
  obtain rfl := si hm59
  exact x_sub K18 ⟨z, z, z, trivial⟩ (fun _ h => st_pk 6 [0, 1, 2, 3, 4, 5] (by decide) h)
 refine x_seq (csr ?_)
 refine r_as z ?_
 refine r_nil (x_seq (c_seq (c_seq ?_)))
 obtain ⟨r19, hr19, hm20⟩ := bs hm17
 clear hm17
 refine c_any mixed (effs := []) (V := []) ?_
 refine stage_ext [(0, pt b0_ 0), (1, vI r19), (2, pt b0_ 0), (3, pt b0_ 0), (4, pt b0_ 0), (5, vI a0.most), (6, vB (decide (a0.most ≤ r19)))] z ?_
 refine stage z z z z [0, 1, 0, 4, 12, 28, 63] [0, 1, 2, 3, 4, 5, 6] [] z z z (q_mv z z z (q_u z z (o_callqP ca33 z (B0.ok b0_ (⟨a0.most, p15, (some x3)⟩ : Al) (⟨(pt b4 0, g2)⟩ : Al.G) r19 hr19) (fun _ h => mv1 (st_some (f := Ae.op g2) (a := x3) (st_star_f (A := Ae.fl b4 x3 g2) (mv5 (mv5 (mv5 (mv5 (mv5 h)))))))) (fun _ h => st_pk 6 [5, 0, 1, 2, 3, 4] (by decide) (st_star_o (st_some_o (mv1 h))))) (q_mv z z z (q_u z z (o_nc z) (q_fa z z fa86_0 z (q_ld z z 0 sc3 z z z (q_u z z (o_bin z z (bI_ge r19 a0.most)) qn))))))) en ?_
 intro _
 refine ex_sub (E' := [(0, pt b0_ 0), (1, vS a1), (2, vI a2), (9, .slice none 0 0), (58, vB (decide (a0.most ≤ r19)))]) ⟨z, z, z, z, z, trivial⟩ ?_
 refine x_seq ?_
 obtain ⟨p21, hp27, hm28⟩ := bs hm20
 refine cd_cut (fun x ks => ∀ (g22 : Value), ∀ (g23 : Al.G), EX x .normal ks [(0, pt b0_ 0), (1, vS a1), (9, g22)] R (Bk b0_ 86 [vI p21.2.most, vI p21.2.target, g23.r.1] :: OwS true 9 1 eS g22 p21.1 :: rO (Ae.op g23.r.2) g23.r.1 p21.2.r :: F)) ?_ fun K29 => ?_
 ·intro g22 g23
  obtain ⟨⟨pv25, g26⟩⟩ := g23
  refine x_seq (c_seq ?_)
  refine cd_st (fun _ h => mv2 h) ?_
  refine cd_opt (fun ho32 => ?_) (fun x30 b31 ho32 => ?_)
  ·rintro rfl
   have hm33 := om_n hm28 ho32
   clear hm28
   cases hm33
  rintro rfl
  have hm33 := om_s hm28 ho32
  clear hm28
  refine cd_st (fun _ h => st_star_o h) ?_
  refine c_reg ?_
  refine r_mv z (r_nc z (r_fa fa86_2 z (r_ld 5 sc82 z z z (r_mv z ?_))))
  obtain ⟨r38, hr38, hm44⟩ := bs hm33
  clear hm33
  refine r_sw (s_w (o_call ca90 z (Aw.ok b31 x30 g26 1 a1 r38 hr38))) ?_
  rintro _ R _ _ ⟨g39, rfl, rfl, rfl⟩
  refine nsr ?_
  refine r_mv z (r_as z ?_)
  refine r_nil (x_seq (c_ret ?_))
  refine ex_st (fun _ h => st_some (f := Ae.op g39) (a := r38.2) (st_star_f (A := Ae.fl b31 r38.2 g39) h)) ?_
  obtain rfl := si hm44
  refine ex_st (fun _ h => st_pk 3 [2, 1, 0] (by decide) h) ?_
  exact x_r1 z (rv_t z) (Le.refl _) ⟨_, z, g22, (⟨(pt b31 0, g39)⟩ : Al.G), z, z, z⟩
 refine c_if (b := decide (a0.most ≤ r19)) z (fun h45 => ?_) fun h45 => ?_
 ·have hm46 := ift hp27 h45
  clear hp27
  refine c_reg ?_
  refine r_mv z (r_mv z (r_bin z z (bI_eq a2 3) ?_))
  refine rl_st (fun _ h => mv5 (mv5 (mv5 (mv5 (mv5 h))))) ?_
  refine rl_st (fun _ h => st_some (f := Ae.op g2) (a := x3) (st_star_f (A := Ae.fl b4 x3 g2) h)) ?_
  obtain ⟨r47, hr47, hm53⟩ := bs hm46
  clear hm46
  refine rl_st (fun _ h => mv1 h) ?_
  refine r_sw (s_w (o_call ca95 z (Bt.ok b0_ (⟨a0.most, p15, (some x3)⟩ : Al) (⟨(pt b4 0, g2)⟩ : Al.G) (a2 == 3) r47 hr47))) ?_
  rintro v48 R _ _ ⟨_, ⟨⟨pv51, g52⟩⟩, rfl, rfl, rfl⟩
  refine r_as z ?_
  refine r_nil ?_
  obtain rfl := si hm53
  exact x_sub (K29 v48 (⟨(pv51, g52)⟩ : Al.G)) ⟨z, z, z, trivial⟩ (fun _ h => st_pk 3 [1, 0, 2] (by decide) h)
 have hm46 := iff_ hp27 h45
 clear hp27
 refine c_skip ?_
 refine ex_st (fun _ h => st_nil (ap := true) (T := 9) (sz := 1) (en := eS) h) ?_
 refine ex_st (fun _ h => mv6 (mv6 (mv6 (mv6 (mv6 h))))) ?_
 refine ex_st (fun _ h => st_some (f := Ae.op g2) (a := x3) (st_star_f (A := Ae.fl b4 x3 g2) h)) ?_
 obtain rfl := si hm46
 exact x_sub (K29 (.slice none 0 0) (⟨(pt b4 0, g2)⟩ : Al.G)) ⟨z, z, z, trivial⟩ (fun _ h => st_pk 3 [2, 1, 0] (by decide) h)
def AK (a0 : Ae) (a1 : Str) : Option (Bool × Ae) :=
 if (mget a0.at_ a1).isSome then (Cr a0 ((mget a0.at_ a1).getD (0 : Int))).bind fun r6 => (gi r6.slots ((mget a0.at_ a1).getD (0 : Int))).bind fun x8 => (apd 8 r6.free [((mget a0.at_ a1).getD (0 : Int))]).bind fun l12 => some ((mget a0.at_ a1).isSome, (⟨r6.lists, ls r6.slots ((mget a0.at_ a1).getD (0 : Int)) (⟨[], 0, 0, 0⟩ : Ap), l12, mdel r6.at_ a1, r6.many⟩ : Ae)) else some ((mget a0.at_ a1).isSome, a0)
theorem AK.ok {G R F} (b0_ : Nat) (a0 : Ae) (g0_ : Ae.G) (a1 : Str) (r : Bool × Ae) (hm : AK a0 a1 = some r) : CO Tryz.prog 94 [pt b0_ 0, vS a1] G R (Bk b0_ 138 (Ae.k a0 g0_) :: OwS true 140 4 Ap.c g0_.slots a0.slots :: OwS true 3 1 eI g0_.free a0.free :: OwM vS vI g0_.at_ a0.at_ :: OwS true 3 1 eI g0_.many a0.many :: F)
  (Ret fun u R' L' => ∃ (q0 : Ae.G), u = vB r.1 ∧ R' = R ∧ L' = Bk b0_ 138 (Ae.k r.2 q0) :: OwS true 140 4 Ap.c q0.slots r.2.slots :: OwS true 3 1 eI q0.free r.2.free :: OwM vS vI q0.at_ r.2.at_ :: OwS true 3 1 eI q0.many r.2.many :: F) := by
 unfold AK at hm
 refine co_ofN (N := 45) Tryz.func94 z z ?_
 refine csr ?_
 refine r_as z ?_
 refine nssr ?_
 refine r_mv z (r_bin z z (bP_eqp Tryz.underlying82) ?_)
 refine nsq ?_
 refine c_ff z ?_
 refine c_skip (x_seq (csr ?_))
 refine r_mv z (r_nc z (r_fa fa138_3 z (r_ld 0 sc134 z z z (r_mv z ?_))))
 refine r_u (o_lk (kv := vS) (vv := vI) (key := a1) (z0 := (0 : Int)) 3 Tryz.underlying134 (kok_S Tryz.underlying9) (fun _ => by kernel_rfl) z z z) (r_mv z ?_)
 refine r_ext z z ?_
 refine r_ext z z (r_as z (r_as z ?_))
 refine nssr ?_
 refine r_mv z ?_
 refine nsq ?_
 refine c_if (b := (mget a0.at_ a1).isSome) z (fun h4 => ?_) fun h4 => ?_
 rotate_left
 ·have hm5 := iff_ hm h4
  clear hm
  refine c_skip (x_seq (csr ?_))
  refine r_mv z (r_as z ?_)
  refine r_nil (x_seq (c_ret ?_))
  obtain rfl := si hm5
  exact x_r1 z (rv_t z) (Le.refl _) ⟨_, z, g0_, z, z, z⟩
 have hm5 := ift hm h4
 clear hm
 refine csr ?_
 refine r_mv z (r_mv z ?_)
 obtain ⟨r6, hr6, hm7⟩ := bs hm5
 clear hm5
 refine r_c (s_w (o_call ca123 z (Cr.ok b0_ a0 g0_ ((mget a0.at_ a1).getD (0 : Int)) r6 hr6))) ?_
 refine nsr ?_
 refine r_mv z (r_nc z (r_fa fa138_3 z (r_ld 0 sc134 z z z (r_mv z ?_))))
 refine rl_st (fun _ h => mv3 h) ?_
 refine r_u0 (o_del (kv := vS) (vv := vI) (key := a1) Tryz.underlying134 (kok_S Tryz.underlying9) z z z z) ?_
 refine nsr ?_
 refine r_mv z (r_nc z (r_fa fa138_1 z (r_ld 1 sc136 z z z (r_mv z ?_))))
 refine r_u (o_bld [vS [], vI 0, vI 0, vI 0] z (fun _ => by kernel_rfl)) ?_
 obtain ⟨x8, hx8, hm9⟩ := bs hm7
 clear hm7
 refine r_u (o_ixO 2 Tryz.underlying136 (fun _ => by kernel_rfl) z z z hx8) ?_
 refine rl_st (fun _ h => mv2 h) ?_
 refine r_u0 (o_stnO (c' := (⟨[], 0, 0, 0⟩ : Ap)) ag140 z z z hx8 z z z) ?_
 refine r_nil (x_seq (c_reg ?_))
 refine r_mv z (r_mv z (r_nc z (r_fa fa138_2 z (r_ld 2 sc135 z z z (r_mv z ?_)))))
 refine r_sw (s_w (o_bsl (en := eI) (sz := 1) (e := 3) (cs := [vI ((mget a0.at_ a1).getD (0 : Int))]) (r := [((mget a0.at_ a1).getD (0 : Int))]) z (fun _ => by kernel_rfl) z (by decide) z (fun _ => z))) ?_
 rintro v10 R _ _ ⟨rfl, rfl⟩
 obtain ⟨l12, hl12, hm13⟩ := bs hm9
 clear hm9
 refine rl_st (fun _ h => mv4 h) ?_
 refine r_sw (s_w (o_ap (sz := 1) (bytes := 8) 0 Tryz.underlying135 z z z z z (by decide) (by decide) (fun _ _ _ h => by simp at h; subst h; rfl) (fun _ => z) z z z z (Nat.succ_pos _) hl12)) ?_
 rintro v11 R _ _ ⟨rfl, rfl⟩
 refine r_nc z (r_fa fa138_2 z ?_)
 refine rl_st (fun _ h => mv4 h) ?_
 refine r_u0 (ou_if (one_o 1 z) fun ho0 => o_st sc135 z z z ho0 z z) ?_
 refine nsr ?_
 refine r_mv z (r_as z ?_)
 refine r_nil (x_seq (c_ret ?_))
 obtain rfl := si hm13
 refine ex_st (fun _ h => st_pk 6 [0, 3, 1, 4, 5] (by decide) h) ?_
 exact x_r1 z (rv_t z) (Le.refl _) ⟨_, z, (⟨g0_.slots, v11, g0_.at_, g0_.many⟩ : Ae.G), z, z, z⟩
def Cf (a0 : Al) (a1 : Int) : Option Al :=
 om a0.r (none) fun x3 => (Ay x3 a1).bind fun r11 => if r11.2 then (AK x3 r11.1).bind fun r15 => some (⟨a0.most, a0.target, (some r15.2)⟩ : Al) else some a0
theorem Cf.ok {G R F} (b0_ : Nat) (a0 : Al) (g0_ : Al.G) (a1 : Int) (r : Al) (hm : Cf a0 a1 = some r) : CO Tryz.prog 97 [pt b0_ 0, vI a1] G R (Bk b0_ 86 [vI a0.most, vI a0.target, g0_.r.1] :: rO (Ae.op g0_.r.2) g0_.r.1 a0.r :: F)
  (Ret fun u R' L' => ∃ (q0 : Al.G), u = .tuple #[] ∧ R' = R ∧ L' = Bk b0_ 86 [vI r.most, vI r.target, q0.r.1] :: rO (Ae.op q0.r.2) q0.r.1 r.r :: F) := by
 obtain ⟨⟨pv1, g2⟩⟩ := g0_
 unfold Cf at hm
 refine co_ofN (N := 22) Tryz.func97 z z ?_
 refine c_seq ?_
 refine cd_st (fun _ h => mv1 h) ?_
 refine cd_opt (fun ho5 => ?_) (fun x3 b4 ho5 => ?_)
 ·rintro rfl
  have hm6 := om_n hm ho5
  clear hm
  cases hm6
 rintro rfl
 have hm6 := om_s hm ho5
 clear hm
 refine cd_st (fun _ h => st_star_o h) ?_
 refine c_reg ?_
 refine r_mv z (r_nc z (r_fa fa86_2 z (r_ld 5 sc82 z z z (r_mv z ?_))))
 obtain ⟨r11, hr11, hm12⟩ := bs hm6
 clear hm6
 refine r_c (s_w (o_call ca93 z (Ay.ok b4 x3 g2 a1 r11 hr11))) ?_
 refine r_mv z ?_
 refine r_ext z z ?_
 refine r_ext z z (r_as z (r_as z ?_))
 refine nsr ?_
 refine r_mv z ?_
 refine nsq ?_
 refine c_if (b := r11.2) z (fun h13 => ?_) fun h13 => ?_
 ·have hm14 := ift hm12 h13
  clear hm12
  refine c_reg ?_
  refine r_mv z (r_nc z (r_fa fa86_2 z (r_ld 5 sc82 z z z (r_mv z ?_))))
  obtain ⟨r15, hr15, hm21⟩ := bs hm14
  clear hm14
  refine r_sw (s_w (o_call ca94 z (AK.ok b4 x3 g2 r11.1 r15 hr15))) ?_
  rintro _ R _ _ ⟨g16, rfl, rfl, rfl⟩
  refine r_nil ?_
  refine x_end ?_
  refine ex_st (fun _ h => st_some (f := Ae.op g16) (a := r15.2) (st_star_f (A := Ae.fl b4 r15.2 g16) h)) ?_
  obtain rfl := si hm21
  refine ex_st (fun _ h => st_pk 2 [1, 0] (by decide) h) ?_
  exact x_r0 z (Le.refl _) ⟨_, z, (⟨(pt b4 0, g16)⟩ : Al.G), z, z, z⟩
 have hm14 := iff_ hm12 h13
 clear hm12
 refine c_skip ?_
 refine x_end ?_
 refine ex_st (fun _ h => st_some (f := Ae.op g2) (a := x3) (st_star_f (A := Ae.fl b4 x3 g2) h)) ?_
 refine ex_st (fun _ h => st_back ho5 h) ?_
 obtain rfl := si hm14
 refine ex_st (fun _ h => st_pk 2 [1, 0] (by decide) h) ?_
 exact x_r0 z (Le.refl _) ⟨_, z, (⟨(pt b4 0, g2)⟩ : Al.G), z, z, z⟩
def CE (a0 : Al) (a1 : Str) : Option (List Str × Al) :=
 Option.bind (if decide (64 < (a1.length : Int)) then some (true, a0) else (Ce a0 a1).bind fun r168 => some (r168.1, r168.2)) fun p3 => if p3.1 then some ([], p3.2) else om p3.2.r (none) fun x13 => (Bd x13 a1).bind fun r21 => if r21.2 then (Dc (⟨p3.2.most, p3.2.target, (some x13)⟩ : Al) a1 r21.1).bind fun r25 => some (r25.1, r25.2) else (Aq x13 0).bind fun r32 => (Aq x13 2).bind fun r34 => (Aq x13 1).bind fun r36 => (Aq x13 3).bind fun r38 => Option.bind (if decide (p3.2.most ≤ (i64 (r32 + r34))) then some (decide (r32 < p3.2.most)) else some false) fun p40 => Option.bind (if p40 then (Cf (⟨p3.2.most, p3.2.target, (some x13)⟩ : Al) 2).bind fun r70 => (B0 r70).bind fun r76 => Option.bind (if decide (r70.most ≤ r76) then (Bt r70 false).bind fun r89 => some (r89.1, r89.2) else some ([], r70)) fun p78 => some (p78.1, p78.2) else Option.bind (if decide (p3.2.most ≤ (i64 (r32 + r34))) then (Ay x13 0).bind fun r107 => (AK x13 r107.1).bind fun r109 => some ([r107.1], (⟨p3.2.most, p3.2.target, (some r109.2)⟩ : Al)) else Option.bind (if decide (p3.2.most ≤ (i64 ((i64 ((i64 (r32 + r34)) + r36)) + r38))) then Option.bind (if decide ((i64 (2 * p3.2.most)) ≤ (i64 ((i64 ((i64 (r32 + r34)) + r36)) + r38))) then (Cf (⟨p3.2.most, p3.2.target, (some x13)⟩ : Al) 3).bind fun r158 => some r158 else some (⟨p3.2.most, p3.2.target, (some x13)⟩ : Al)) fun p128 => (B0 p128).bind fun r136 => Option.bind (if decide (p128.most ≤ r136) then (Bt p128 false).bind fun r149 => some (r149.1, r149.2) else some ([], p128)) fun p138 => some (p138.1, p138.2) else some ([], (⟨p3.2.most, p3.2.target, (some x13)⟩ : Al))) fun p117 => some (p117.1, p117.2)) fun p96 => some (p96.1, p96.2)) fun p44 => om p44.2.r (none) fun x53 => (Aw x53 0 a1).bind fun r61 => some (p44.1, (⟨p44.2.most, p44.2.target, (some r61.2)⟩ : Al))
theorem CE.ok {G R F} (b0_ : Nat) (a0 : Al) (g0_ : Al.G) (a1 : Str) (r : List Str × Al) (hm : CE a0 a1 = some r) : CO Tryz.prog 56 [pt b0_ 0, vS a1] G R (Bk b0_ 86 [vI a0.most, vI a0.target, g0_.r.1] :: rO (Ae.op g0_.r.2) g0_.r.1 a0.r :: F)
  (Ret fun u R' L' => ∃ (p0 : Value) (q0 : Al.G), u = p0 ∧ R' = R ∧ L' = OwS true 9 1 eS p0 r.1 :: Bk b0_ 86 [vI r.2.most, vI r.2.target, q0.r.1] :: rO (Ae.op q0.r.2) q0.r.1 r.2.r :: F) := by
 obtain ⟨⟨pv1, g2⟩⟩ := g0_
 unfold CE at hm
 refine co_ofN (N := 147) Tryz.func56 z z ?_
 refine csr ?_
 refine r_as z ?_
 refine r_nil (x_seq (c_seq (c_seq ?_)))
 obtain ⟨p3, hp8, hm9⟩ := bs hm
 refine cd_cut (fun x ks => ∀ (g4 : Al.G), EX x .normal ks [(0, pt b0_ 0), (1, vS a1), (23, vB p3.1)] R (Bk b0_ 86 [vI p3.2.most, vI p3.2.target, g4.r.1] :: rO (Ae.op g4.r.2) g4.r.1 p3.2.r :: F)) ?_ fun K10 => ?_
 rotate_left
 ·refine cd_by (decide (64 < (a1.length : Int))) (fun h166 => ?_) fun h166 => ?_
  ·have hm167 := ift hp8 h166
   clear hp8
   refine c_reg ?_
   refine r_mv z (r_bin z z (bP_eqp Tryz.underlying60) (r_mv z ?_))
   refine r_s (s_y z z z (o_mv z)) ?_
   refine r_s (s_y z z z (o_lenS Tryz.underlying9 z)) ?_
   refine r_s (s_y z z z (o_bin z z (bI_gt (a1.length : Int) 64))) ?_
   refine r_u (o_pf z z z) (r_mv z ?_)
   refine r_s (s_n z z h166) ?_
   refine r_s (s_n z z h166) ?_
   refine r_s (s_n z z h166) ?_
   refine r_u (o_pt z h166 z) ?_
   refine r_nil ?_
   obtain rfl := si hm167
   exact x_sub (K10 (⟨(pv1, g2)⟩ : Al.G)) ⟨z, z, z, trivial⟩ (fun _ h => st_pk 2 [0, 1] (by decide) h)
  have hm167 := iff_ hp8 h166
  clear hp8
  refine c_reg ?_
  refine r_mv z (r_bin z z (bP_eqp Tryz.underlying60) (r_mv z ?_))
  refine r_s (s_y z z z (o_mv z)) ?_
  refine r_s (s_y z z z (o_lenS Tryz.underlying9 z)) ?_
  refine r_s (s_y z z z (o_bin z z (bI_gt (a1.length : Int) 64))) ?_
  refine r_u (o_pf z z z) (r_mv z ?_)
  refine r_s (s_y z z h166 (o_mv z)) ?_
  refine r_s (s_y z z h166 (o_mv z)) ?_
  obtain ⟨r168, hr168, hm173⟩ := bs hm167
  clear hm167
  refine r_sw (s_yw z z h166 (o_call ca49 z (Ce.ok b0_ a0 (⟨(pv1, g2)⟩ : Al.G) a1 r168 hr168))) ?_
  rintro _ R _ _ ⟨⟨⟨pv171, g172⟩⟩, rfl, rfl, rfl⟩
  refine r_u (o_pf z h166 z) ?_
  refine r_nil ?_
  obtain rfl := si hm173
  exact x_sub (K10 (⟨(pv171, g172)⟩ : Al.G)) ⟨z, z, z, trivial⟩ (fun _ h => st_pk 2 [0, 1] (by decide) h)
 intro g4
 obtain ⟨⟨pv6, g7⟩⟩ := g4
 refine x_seq ?_
 refine c_if (b := p3.1) z (fun h11 => ?_) fun h11 => ?_
 ·have hm12 := ift hm9 h11
  clear hm9
  refine csr ?_
  refine r_as z ?_
  refine r_nil (x_seq (c_ret ?_))
  refine ex_st (fun _ h => st_nil (ap := true) (T := 9) (sz := 1) (en := eS) h) ?_
  obtain rfl := si hm12
  exact x_r1 z (rv_t z) (Le.refl _) ⟨_, z, (.slice none 0 0), (⟨(pv6, g7)⟩ : Al.G), z, z, z⟩
 have hm12 := iff_ hm9 h11
 clear hm9
 refine c_skip (x_seq (c_seq (c_seq ?_)))
 refine cd_st (fun _ h => mv1 h) ?_
 refine cd_opt (fun ho15 => ?_) (fun x13 b14 ho15 => ?_)
 ·rintro rfl
  have hm16 := om_n hm12 ho15
  clear hm12
  cases hm16
 rintro rfl
 have hm16 := om_s hm12 ho15
 clear hm12
 refine cd_st (fun _ h => st_star_o h) ?_
 refine c_reg ?_
 refine r_mv z (r_nc z (r_fa fa86_2 z (r_ld 5 sc82 z z z (r_mv z ?_))))
 obtain ⟨r21, hr21, hm22⟩ := bs hm16
 clear hm16
 refine r_c (s_w (o_call ca76 z (Bd.ok b14 x13 g7 a1 r21 hr21))) ?_
 refine r_mv z ?_
 refine r_ext z z ?_
 refine r_ext z z (r_as z (r_as z ?_))
 refine nsr ?_
 refine r_mv z ?_
 refine nsq ?_
 refine c_if (b := r21.2) z (fun h23 => ?_) fun h23 => ?_
 ·have hm24 := ift hm22 h23
  clear hm22
  refine csr ?_
  refine r_mv z (r_mv z (r_mv z ?_))
  refine rl_st (fun _ h => st_some (f := Ae.op g7) (a := x13) (st_star_f (A := Ae.fl b14 x13 g7) h)) ?_
  obtain ⟨r25, hr25, hm31⟩ := bs hm24
  clear hm24
  refine rl_st (fun _ h => mv1 h) ?_
  refine r_sw (s_w (o_call ca96 z (Dc.ok b0_ (⟨p3.2.most, p3.2.target, (some x13)⟩ : Al) (⟨(pt b14 0, g7)⟩ : Al.G) a1 r21.1 r25 hr25))) ?_
  rintro v26 R _ _ ⟨_, ⟨⟨pv29, g30⟩⟩, rfl, rfl, rfl⟩
  refine r_as z ?_
  refine r_nil (x_seq (c_ret ?_))
  obtain rfl := si hm31
  exact x_r1 z (rv_t z) (Le.refl _) ⟨_, z, v26, (⟨(pv29, g30)⟩ : Al.G), z, z, z⟩
 have hm24 := iff_ hm22 h23
 clear hm22
 refine c_skip (x_seq (csr ?_))
 refine r_as z ?_
 refine r_nil (x_seq (c_seq ?_))
 obtain ⟨r32, hr32, hm33⟩ := bs hm24
 clear hm24
 obtain ⟨r34, hr34, hm35⟩ := bs hm33
 clear hm33
 refine c_any mixed (effs := []) (V := []) ?_
 refine stage_ext [(0, pt b0_ 0), (1, pt b0_ 0), (2, pt b0_ 2), (3, pt b14 0), (4, vI r32), (5, pt b0_ 0), (6, pt b0_ 0), (7, pt b0_ 2), (8, pt b14 0), (9, vI r34), (10, vI (i64 (r32 + r34))), (11, vI (i64 (r32 + r34)))] z ?_
 refine stage z z z z mk24_ [0, 1, 2, 3, 4, 5, 6, 7, 8, 9, 10, 11] [] z z z (q_mv z z z (q_u z z (o_nc z) (q_fa z z fa86_2 z (q_ld z z 5 sc82 z z z (q_u z z (o_callqP ca73 z (Aq.ok b14 x13 g7 0 r32 hr32) (fun _ h => st_pk 6 [0, 1, 2, 3, 4, 5] (by decide) h) (fun _ h => st_pk 6 [0, 1, 2, 3, 4, 5] (by decide) h)) (q_mv z z z (q_u z z (o_nc z) (q_fa z z fa86_2 z (q_ld z z 5 sc82 z z z (q_u z z (o_callqP ca73 z (Aq.ok b14 x13 g7 2 r34 hr34) (fun _ h => st_pk 6 [0, 1, 2, 3, 4, 5] (by decide) h) (fun _ h => st_pk 6 [0, 1, 2, 3, 4, 5] (by decide) h)) (q_u z z (o_bin z z (bI_add r32 r34)) (q_u z z (o_as z) qn)))))))))))) en ?_
 intro _
 refine ex_sub (E' := [(0, pt b0_ 0), (1, vS a1), (7, .slice none 0 0), (8, vI (i64 (r32 + r34)))]) ⟨z, z, z, z, trivial⟩ ?_
 refine x_seq (c_seq ?_)
 obtain ⟨r36, hr36, hm37⟩ := bs hm35
 clear hm35
 obtain ⟨r38, hr38, hm39⟩ := bs hm37
 clear hm37
 refine c_any mixed (effs := []) (V := []) ?_
 refine stage_ext [(0, vI (i64 (r32 + r34))), (1, pt b0_ 0), (2, pt b0_ 0), (3, pt b0_ 2), (4, pt b14 0), (5, vI r36), (6, vI (i64 ((i64 (r32 + r34)) + r36))), (7, pt b0_ 0), (8, pt b0_ 0), (9, pt b0_ 2), (10, pt b14 0), (11, vI r38), (12, vI (i64 ((i64 ((i64 (r32 + r34)) + r36)) + r38))), (13, vI (i64 ((i64 ((i64 (r32 + r34)) + r36)) + r38)))] z ?_
 refine stage z z z z [0, 0, 2, 6, 14, 30, 63, 0, 128, 384, 896, 1982, 4095, 8191] [0, 1, 2, 3, 4, 5, 6, 7, 8, 9, 10, 11, 12, 13] [] z z z (q_mv z z z (q_mv z z z (q_u z z (o_nc z) (q_fa z z fa86_2 z (q_ld z z 5 sc82 z z z (q_u z z (o_callqP ca73 z (Aq.ok b14 x13 g7 1 r36 hr36) (fun _ h => st_pk 6 [0, 1, 2, 3, 4, 5] (by decide) h) (fun _ h => st_pk 6 [0, 1, 2, 3, 4, 5] (by decide) h)) (q_u z z (o_bin z z (bI_add (i64 (r32 + r34)) r36)) (q_mv z z z (q_u z z (o_nc z) (q_fa z z fa86_2 z (q_ld z z 5 sc82 z z z (q_u z z (o_callqP ca73 z (Aq.ok b14 x13 g7 3 r38 hr38) (fun _ h => st_pk 6 [0, 1, 2, 3, 4, 5] (by decide) h) (fun _ h => st_pk 6 [0, 1, 2, 3, 4, 5] (by decide) h)) (q_u z z (o_bin z z (bI_add (i64 ((i64 (r32 + r34)) + r36)) r38)) (q_u z z (o_as z) qn)))))))))))))) en ?_
 intro _
 refine ex_sub (E' := [(0, pt b0_ 0), (1, vS a1), (7, .slice none 0 0), (8, vI (i64 (r32 + r34))), (9, vI (i64 ((i64 ((i64 (r32 + r34)) + r36)) + r38)))]) ⟨z, z, z, z, z, trivial⟩ ?_
 refine x_seq (c_seq (c_blk (c_seq ?_)))
 obtain ⟨p40, hp41, hm42⟩ := bs hm39
 refine cd_join (E' := [(0, pt b0_ 0), (1, vS a1), (7, .slice none 0 0), (8, vI (i64 (r32 + r34))), (9, vI (i64 ((i64 ((i64 (r32 + r34)) + r36)) + r38))), (62, vB p40)]) (L' := Bk b14 138 (Ae.k x13 g7) :: Bk b0_ 86 [vI p3.2.most, vI p3.2.target, pt b14 0] :: OwS true 140 4 Ap.c g7.slots x13.slots :: OwS true 3 1 eI g7.free x13.free :: OwM vS vI g7.at_ x13.at_ :: OwS true 3 1 eI g7.many x13.many :: F) ?_ fun K43 => ?_
 rotate_left
 ·refine cd_by (decide (p3.2.most ≤ (i64 (r32 + r34)))) (fun h164 => ?_) fun h164 => ?_
  ·have hm165 := ift hp41 h164
   clear hp41
   refine c_any mixed (effs := []) (V := []) ?_
   refine stage_ext [(0, vI (i64 (r32 + r34))), (1, pt b0_ 0), (2, pt b0_ 0), (3, pt b0_ 0), (4, vI p3.2.most), (5, vB (decide (p3.2.most ≤ (i64 (r32 + r34))))), (6, vB (decide (p3.2.most ≤ (i64 (r32 + r34))))), (7, pt b0_ 0), (8, pt b0_ 0), (9, pt b0_ 2), (10, pt b14 0), (11, vI r32), (12, pt b0_ 0), (13, pt b0_ 0), (14, pt b0_ 0), (15, vI p3.2.most), (16, vB (decide (r32 < p3.2.most))), (17, vB (decide (r32 < p3.2.most))), (18, vB (decide (r32 < p3.2.most)))] z ?_
   refine stage z z z z mk13_ [0, 1, 2, 3, 4, 5, 6, 7, 8, 9, 10, 11, 12, 13, 14, 15, 16, 17, 18] [] z z z (q_mv z z z (q_mv z z z (q_u z z (o_nc z) (q_fa z z fa86_0 z (q_ld z z 5 sc3 z z z (q_u z z (o_bin z z (bI_ge (i64 (r32 + r34)) p3.2.most)) (q_mv z z z (q_y z z z z h164 (o_mv z) (q_y z z z z h164 (o_nc z) (q_y z z z z h164 (o_fa fa86_2 z) (q_y z z z z h164 (o_ld 5 sc82 z z z) (q_y z z z z h164 (o_callqP ca73 z (Aq.ok b14 x13 g7 0 r32 hr32) (fun _ h => st_pk 6 [0, 1, 2, 3, 4, 5] (by decide) h) (fun _ h => st_pk 6 [0, 1, 2, 3, 4, 5] (by decide) h)) (q_y z z z z h164 (o_mv z) (q_y z z z z h164 (o_nc z) (q_y z z z z h164 (o_fa fa86_0 z) (q_y z z z z h164 (o_ld 5 sc3 z z z) (q_y z z z z h164 (o_bin z z (bI_lt r32 p3.2.most)) (q_u z z (o_pt z h164 z) (q_u z z (o_as z) qn))))))))))))))))))) en ?_
   intro _
   refine ex_sub (E' := [(0, pt b0_ 0), (1, vS a1), (7, .slice none 0 0), (8, vI (i64 (r32 + r34))), (9, vI (i64 ((i64 ((i64 (r32 + r34)) + r36)) + r38))), (62, vB (decide (r32 < p3.2.most)))]) ⟨z, z, z, z, z, z, trivial⟩ ?_
   obtain rfl := si hm165
   exact x_sub K43 ⟨z, z, z, z, z, z, trivial⟩ (fun _ h => st_pk 6 [0, 5, 1, 2, 3, 4] (by decide) h)
  have hm165 := iff_ hp41 h164
  clear hp41
  refine c_any mixed (effs := []) (V := []) ?_
  refine stage_ext [(0, vI (i64 (r32 + r34))), (1, pt b0_ 0), (2, pt b0_ 0), (3, pt b0_ 0), (4, vI p3.2.most), (5, vB (decide (p3.2.most ≤ (i64 (r32 + r34))))), (6, vB (decide (p3.2.most ≤ (i64 (r32 + r34))))), (7, undef), (8, undef), (9, undef), (10, undef), (11, undef), (12, undef), (13, undef), (14, undef), (15, undef), (16, undef), (17, vB false), (18, vB false)] z ?_
  refine stage z z z z mk13_ [0, 1, 2, 3, 4, 5, 6, 7, 8, 9, 10, 11, 12, 13, 14, 15, 16, 17, 18] [] z z z (q_mv z z z (q_mv z z z (q_u z z (o_nc z) (q_fa z z fa86_0 z (q_ld z z 5 sc3 z z z (q_u z z (o_bin z z (bI_ge (i64 (r32 + r34)) p3.2.most)) (q_mv z z z (q_n z z z z h164 (q_n z z z z h164 (q_n z z z z h164 (q_n z z z z h164 (q_n z z z z h164 (q_n z z z z h164 (q_n z z z z h164 (q_n z z z z h164 (q_n z z z z h164 (q_n z z z z h164 (q_u z z (o_pf z h164 z) (q_u z z (o_as z) qn))))))))))))))))))) en ?_
  intro _
  refine ex_sub (E' := [(0, pt b0_ 0), (1, vS a1), (7, .slice none 0 0), (8, vI (i64 (r32 + r34))), (9, vI (i64 ((i64 ((i64 (r32 + r34)) + r36)) + r38))), (62, vB false)]) ⟨z, z, z, z, z, z, trivial⟩ ?_
  obtain rfl := si hm165
  exact x_sub K43 ⟨z, z, z, z, z, z, trivial⟩ (fun _ h => st_pk 6 [0, 5, 1, 2, 3, 4] (by decide) h)
 refine x_seq ?_
 obtain ⟨p44, hp50, hm51⟩ := bs hm42
 refine cd_cut (fun x ks => ∀ (g45 : Value), ∀ (g46 : Al.G), EX x .normal ks [(0, pt b0_ 0), (1, vS a1), (7, g45)] R (Bk b0_ 86 [vI p44.2.most, vI p44.2.target, g46.r.1] :: OwS true 9 1 eS g45 p44.1 :: rO (Ae.op g46.r.2) g46.r.1 p44.2.r :: F)) ?_ fun K52 => ?_
 ·intro g45 g46
  obtain ⟨⟨pv48, g49⟩⟩ := g46
  refine x_blk (x_seq (c_seq ?_))
  refine cd_st (fun _ h => mv2 h) ?_
  refine cd_opt (fun ho55 => ?_) (fun x53 b54 ho55 => ?_)
  ·rintro rfl
   have hm56 := om_n hm51 ho55
   clear hm51
   cases hm56
  rintro rfl
  have hm56 := om_s hm51 ho55
  clear hm51
  refine cd_st (fun _ h => st_star_o h) ?_
  refine c_reg ?_
  refine r_mv z (r_nc z (r_fa fa86_2 z (r_ld 5 sc82 z z z (r_mv z ?_))))
  obtain ⟨r61, hr61, hm67⟩ := bs hm56
  clear hm56
  refine r_sw (s_w (o_call ca90 z (Aw.ok b54 x53 g49 0 a1 r61 hr61))) ?_
  rintro _ R _ _ ⟨g62, rfl, rfl, rfl⟩
  refine nsr ?_
  refine r_mv z (r_as z ?_)
  refine r_nil (x_seq (c_ret ?_))
  refine ex_st (fun _ h => st_some (f := Ae.op g62) (a := r61.2) (st_star_f (A := Ae.fl b54 r61.2 g62) h)) ?_
  obtain rfl := si hm67
  refine ex_st (fun _ h => st_pk 3 [2, 1, 0] (by decide) h) ?_
  exact x_r1 z (rv_t z) (Le.refl _) ⟨_, z, g45, (⟨(pt b54 0, g62)⟩ : Al.G), z, z, z⟩
 refine c_if (b := p40) z (fun h68 => ?_) fun h68 => ?_
 ·have hm69 := ift hp50 h68
  clear hp50
  refine csr ?_
  refine r_mv z ?_
  refine rl_st (fun _ h => mv4 (mv5 (mv5 (mv5 (mv5 h))))) ?_
  refine rl_st (fun _ h => st_some (f := Ae.op g7) (a := x13) (st_star_f (A := Ae.fl b14 x13 g7) h)) ?_
  obtain ⟨r70, hr70, hm75⟩ := bs hm69
  clear hm69
  refine rl_st (fun _ h => mv1 h) ?_
  refine r_sw (s_w (o_call ca97 z (Cf.ok b0_ (⟨p3.2.most, p3.2.target, (some x13)⟩ : Al) (⟨(pt b14 0, g7)⟩ : Al.G) 2 r70 hr70))) ?_
  rintro _ R _ _ ⟨⟨⟨pv73, g74⟩⟩, rfl, rfl, rfl⟩
  refine r_nil (x_seq (c_seq ?_))
  obtain ⟨r76, hr76, hm77⟩ := bs hm75
  clear hm75
  refine c_any mixed (effs := []) (V := []) ?_
  refine stage_ext [(0, pt b0_ 0), (1, vI r76), (2, pt b0_ 0), (3, pt b0_ 0), (4, pt b0_ 0), (5, vI r70.most), (6, vB (decide (r70.most ≤ r76)))] z ?_
  refine stage z z z z [0, 1, 0, 4, 12, 28, 63] [0, 1, 2, 3, 4, 5, 6] [] z z z (q_mv z z z (q_u z z (o_callqP ca33 z (B0.ok b0_ r70 (⟨(pv73, g74)⟩ : Al.G) r76 hr76) (fun _ h => st_pk 2 [0, 1] (by decide) h) (fun _ h => st_pk 2 [0, 1] (by decide) h)) (q_mv z z z (q_u z z (o_nc z) (q_fa z z fa86_0 z (q_ld z z 0 sc3 z z z (q_u z z (o_bin z z (bI_ge r76 r70.most)) qn))))))) en ?_
  intro _
  refine ex_sub (E' := [(0, pt b0_ 0), (1, vS a1), (7, .slice none 0 0), (89, vB (decide (r70.most ≤ r76)))]) ⟨z, z, z, z, trivial⟩ ?_
  refine x_seq ?_
  obtain ⟨p78, hp84, hm85⟩ := bs hm77
  refine cd_cut (fun x ks => ∀ (g79 : Value), ∀ (g80 : Al.G), EX x .normal ks [(0, pt b0_ 0), (1, vS a1), (7, g79)] R (Bk b0_ 86 [vI p78.2.most, vI p78.2.target, g80.r.1] :: OwS true 9 1 eS g79 p78.1 :: rO (Ae.op g80.r.2) g80.r.1 p78.2.r :: F)) ?_ fun K86 => ?_
  ·intro g79 g80
   obtain ⟨⟨pv82, g83⟩⟩ := g80
   obtain rfl := si hm85
   exact x_sub (K52 g79 (⟨(pv82, g83)⟩ : Al.G)) ⟨z, z, z, trivial⟩ (fun _ h => st_pk 3 [0, 1, 2] (by decide) h)
  refine c_if (b := decide (r70.most ≤ r76)) z (fun h87 => ?_) fun h87 => ?_
  ·have hm88 := ift hp84 h87
   clear hp84
   refine c_reg ?_
   refine r_mv z ?_
   obtain ⟨r89, hr89, hm95⟩ := bs hm88
   clear hm88
   refine r_sw (s_w (o_call ca95 z (Bt.ok b0_ r70 (⟨(pv73, g74)⟩ : Al.G) false r89 hr89))) ?_
   rintro v90 R _ _ ⟨_, ⟨⟨pv93, g94⟩⟩, rfl, rfl, rfl⟩
   refine r_as z ?_
   refine r_nil ?_
   obtain rfl := si hm95
   exact x_sub (K86 v90 (⟨(pv93, g94)⟩ : Al.G)) ⟨z, z, z, trivial⟩ (fun _ h => st_pk 3 [1, 0, 2] (by decide) h)
  have hm88 := iff_ hp84 h87
  clear hp84
  refine c_skip ?_
  refine ex_st (fun _ h => st_nil (ap := true) (T := 9) (sz := 1) (en := eS) h) ?_
  obtain rfl := si hm88
  exact x_sub (K86 (.slice none 0 0) (⟨(pv73, g74)⟩ : Al.G)) ⟨z, z, z, trivial⟩ (fun _ h => st_pk 3 [1, 0, 2] (by decide) h)
 have hm69 := iff_ hp50 h68
 clear hp50
 refine csr ?_
 refine r_mv z (r_mv z (r_nc z (r_fa fa86_0 z (r_ld 1 sc3 z z z (r_bin z z (bI_ge (i64 (r32 + r34)) p3.2.most) (r_as z ?_))))))
 refine nsq ?_
 obtain ⟨p96, hp102, hm103⟩ := bs hm69
 refine cd_cut (fun x ks => ∀ (g97 : Value), ∀ (g98 : Al.G), EX x .normal ks [(0, pt b0_ 0), (1, vS a1), (7, g97)] R (Bk b0_ 86 [vI p96.2.most, vI p96.2.target, g98.r.1] :: OwS true 9 1 eS g97 p96.1 :: rO (Ae.op g98.r.2) g98.r.1 p96.2.r :: F)) ?_ fun K104 => ?_
 ·intro g97 g98
  obtain ⟨⟨pv100, g101⟩⟩ := g98
  obtain rfl := si hm103
  exact x_sub (K52 g97 (⟨(pv100, g101)⟩ : Al.G)) ⟨z, z, z, trivial⟩ (fun _ h => st_pk 3 [0, 1, 2] (by decide) h)
 refine c_if (b := decide (p3.2.most ≤ (i64 (r32 + r34)))) z (fun h105 => ?_) fun h105 => ?_
 ·have hm106 := ift hp102 h105
  clear hp102
  refine csr ?_
  refine r_mv z (r_nc z (r_fa fa86_2 z (r_ld 1 sc82 z z z ?_)))
  obtain ⟨r107, hr107, hm108⟩ := bs hm106
  clear hm106
  refine rl_st (fun _ h => mv4 (mv5 (mv5 (mv5 (mv5 h))))) ?_
  refine r_c (s_w (o_call ca93 z (Ay.ok b14 x13 g7 0 r107 hr107))) ?_
  refine r_mv z ?_
  refine r_ext z z ?_
  refine r_ext z z (r_as z (r_as z ?_))
  refine nsr ?_
  refine r_mv z (r_nc z (r_fa fa86_2 z (r_ld 5 sc82 z z z (r_mv z ?_))))
  obtain ⟨r109, hr109, hm115⟩ := bs hm108
  clear hm108
  refine r_sw (s_w (o_call ca94 z (AK.ok b14 x13 g7 r107.1 r109 hr109))) ?_
  rintro _ R _ _ ⟨g110, rfl, rfl, rfl⟩
  refine r_nil (x_seq (c_reg ?_))
  refine r_mv z ?_
  refine r_sw (s_w (o_bsl (en := eS) (sz := 1) (e := 9) (cs := [vS r107.1]) (r := [r107.1]) z (fun _ => by kernel_rfl) z (by decide) z (fun _ => z))) ?_
  rintro v116 R _ _ ⟨rfl, rfl⟩
  refine r_as z ?_
  refine r_nil ?_
  refine ex_st (fun _ h => mv5 (mv5 (mv5 (mv5 (mv5 h))))) ?_
  refine ex_st (fun _ h => st_some (f := Ae.op g110) (a := r109.2) (st_star_f (A := Ae.fl b14 r109.2 g110) h)) ?_
  obtain rfl := si hm115
  exact x_sub (K104 v116 (⟨(pt b14 0, g110)⟩ : Al.G)) ⟨z, z, z, trivial⟩ (fun _ h => st_pk 3 [2, 1, 0] (by decide) h)
 have hm106 := iff_ hp102 h105
 clear hp102
 refine csr ?_
 refine r_mv z (r_mv z (r_nc z (r_fa fa86_0 z (r_ld 1 sc3 z z z (r_u (o_bin z z (bI_ge (i64 ((i64 ((i64 (r32 + r34)) + r36)) + r38)) p3.2.most)) (r_as z ?_))))))
 refine nsq ?_
 obtain ⟨p117, hp123, hm124⟩ := bs hm106
 refine cd_cut (fun x ks => ∀ (g118 : Value), ∀ (g119 : Al.G), EX x .normal ks [(0, pt b0_ 0), (1, vS a1), (7, g118)] R (Bk b0_ 86 [vI p117.2.most, vI p117.2.target, g119.r.1] :: OwS true 9 1 eS g118 p117.1 :: rO (Ae.op g119.r.2) g119.r.1 p117.2.r :: F)) ?_ fun K125 => ?_
 ·intro g118 g119
  obtain ⟨⟨pv121, g122⟩⟩ := g119
  obtain rfl := si hm124
  exact x_sub (K104 g118 (⟨(pv121, g122)⟩ : Al.G)) ⟨z, z, z, trivial⟩ (fun _ h => st_pk 3 [0, 1, 2] (by decide) h)
 refine c_if (b := decide (p3.2.most ≤ (i64 ((i64 ((i64 (r32 + r34)) + r36)) + r38)))) z (fun h126 => ?_) fun h126 => ?_
 rotate_left
 ·have hm127 := iff_ hp123 h126
  clear hp123
  refine c_skip ?_
  refine ex_st (fun _ h => st_nil (ap := true) (T := 9) (sz := 1) (en := eS) h) ?_
  refine ex_st (fun _ h => mv5 (mv6 (mv6 (mv6 (mv6 h))))) ?_
  refine ex_st (fun _ h => st_some (f := Ae.op g7) (a := x13) (st_star_f (A := Ae.fl b14 x13 g7) h)) ?_
  obtain rfl := si hm127
  exact x_sub (K125 (.slice none 0 0) (⟨(pt b14 0, g7)⟩ : Al.G)) ⟨z, z, z, trivial⟩ (fun _ h => st_pk 3 [2, 1, 0] (by decide) h)
 have hm127 := ift hp123 h126
 clear hp123
 refine c_seq (csr ?_)
 refine r_mv z (r_mv z (r_nc z (r_fa fa86_0 z (r_ld 1 sc3 z z z (r_bin z z (bI_mul 2 p3.2.most) (r_u (o_bin z z (bI_ge (i64 ((i64 ((i64 (r32 + r34)) + r36)) + r38)) (i64 (2 * p3.2.most)))) ?_))))))
 refine nsq ?_
 obtain ⟨p128, hp133, hm134⟩ := bs hm127
 refine cd_cut (fun x ks => ∀ (g129 : Al.G), EX x .normal ks [(0, pt b0_ 0), (1, vS a1), (7, .slice none 0 0)] R (Bk b0_ 86 [vI p128.most, vI p128.target, g129.r.1] :: rO (Ae.op g129.r.2) g129.r.1 p128.r :: F)) ?_ fun K135 => ?_
 rotate_left
 ·refine c_if (b := decide ((i64 (2 * p3.2.most)) ≤ (i64 ((i64 ((i64 (r32 + r34)) + r36)) + r38)))) z (fun h156 => ?_) fun h156 => ?_
  ·have hm157 := ift hp133 h156
   clear hp133
   refine c_reg ?_
   refine r_mv z ?_
   refine rl_st (fun _ h => mv4 (mv5 (mv5 (mv5 (mv5 h))))) ?_
   refine rl_st (fun _ h => st_some (f := Ae.op g7) (a := x13) (st_star_f (A := Ae.fl b14 x13 g7) h)) ?_
   obtain ⟨r158, hr158, hm163⟩ := bs hm157
   clear hm157
   refine rl_st (fun _ h => mv1 h) ?_
   refine r_sw (s_w (o_call ca97 z (Cf.ok b0_ (⟨p3.2.most, p3.2.target, (some x13)⟩ : Al) (⟨(pt b14 0, g7)⟩ : Al.G) 3 r158 hr158))) ?_
   rintro _ R _ _ ⟨⟨⟨pv161, g162⟩⟩, rfl, rfl, rfl⟩
   refine r_nil ?_
   obtain rfl := si hm163
   exact x_sub (K135 (⟨(pv161, g162)⟩ : Al.G)) ⟨z, z, z, trivial⟩ (fun _ h => st_pk 2 [0, 1] (by decide) h)
  have hm157 := iff_ hp133 h156
  clear hp133
  refine c_skip ?_
  refine ex_st (fun _ h => mv4 (mv5 (mv5 (mv5 (mv5 h))))) ?_
  refine ex_st (fun _ h => st_some (f := Ae.op g7) (a := x13) (st_star_f (A := Ae.fl b14 x13 g7) h)) ?_
  obtain rfl := si hm157
  exact x_sub (K135 (⟨(pt b14 0, g7)⟩ : Al.G)) ⟨z, z, z, trivial⟩ (fun _ h => st_pk 2 [1, 0] (by decide) h)
 intro g129
 obtain ⟨⟨pv131, g132⟩⟩ := g129
 refine x_seq (c_seq ?_)
 obtain ⟨r136, hr136, hm137⟩ := bs hm134
 clear hm134
 refine c_any mixed (effs := []) (V := []) ?_
 refine stage_ext [(0, pt b0_ 0), (1, vI r136), (2, pt b0_ 0), (3, pt b0_ 0), (4, pt b0_ 0), (5, vI p128.most), (6, vB (decide (p128.most ≤ r136)))] z ?_
 refine stage z z z z [0, 1, 0, 4, 12, 28, 63] [0, 1, 2, 3, 4, 5, 6] [] z z z (q_mv z z z (q_u z z (o_callqP ca33 z (B0.ok b0_ p128 (⟨(pv131, g132)⟩ : Al.G) r136 hr136) (fun _ h => st_pk 2 [0, 1] (by decide) h) (fun _ h => st_pk 2 [0, 1] (by decide) h)) (q_mv z z z (q_u z z (o_nc z) (q_fa z z fa86_0 z (q_ld z z 0 sc3 z z z (q_u z z (o_bin z z (bI_ge r136 p128.most)) qn))))))) en ?_
 intro _
 refine ex_sub (E' := [(0, pt b0_ 0), (1, vS a1), (7, .slice none 0 0), (137, vB (decide (p128.most ≤ r136)))]) ⟨z, z, z, z, trivial⟩ ?_
 refine x_seq ?_
 obtain ⟨p138, hp144, hm145⟩ := bs hm137
 refine cd_cut (fun x ks => ∀ (g139 : Value), ∀ (g140 : Al.G), EX x .normal ks [(0, pt b0_ 0), (1, vS a1), (7, g139)] R (Bk b0_ 86 [vI p138.2.most, vI p138.2.target, g140.r.1] :: OwS true 9 1 eS g139 p138.1 :: rO (Ae.op g140.r.2) g140.r.1 p138.2.r :: F)) ?_ fun K146 => ?_
 ·intro g139 g140
  obtain ⟨⟨pv142, g143⟩⟩ := g140
  obtain rfl := si hm145
  exact x_sub (K125 g139 (⟨(pv142, g143)⟩ : Al.G)) ⟨z, z, z, trivial⟩ (fun _ h => st_pk 3 [0, 1, 2] (by decide) h)
 refine c_if (b := decide (p128.most ≤ r136)) z (fun h147 => ?_) fun h147 => ?_
 ·have hm148 := ift hp144 h147
  clear hp144
  refine c_reg ?_
  refine r_mv z ?_
  obtain ⟨r149, hr149, hm155⟩ := bs hm148
  clear hm148
  refine r_sw (s_w (o_call ca95 z (Bt.ok b0_ p128 (⟨(pv131, g132)⟩ : Al.G) false r149 hr149))) ?_
  rintro v150 R _ _ ⟨_, ⟨⟨pv153, g154⟩⟩, rfl, rfl, rfl⟩
  refine r_as z ?_
  refine r_nil ?_
  obtain rfl := si hm155
  exact x_sub (K146 v150 (⟨(pv153, g154)⟩ : Al.G)) ⟨z, z, z, trivial⟩ (fun _ h => st_pk 3 [1, 0, 2] (by decide) h)
 have hm148 := iff_ hp144 h147
 clear hp144
 refine c_skip ?_
 refine ex_st (fun _ h => st_nil (ap := true) (T := 9) (sz := 1) (en := eS) h) ?_
 obtain rfl := si hm148
 exact x_sub (K146 (.slice none 0 0) (⟨(pv131, g132)⟩ : Al.G)) ⟨z, z, z, trivial⟩ (fun _ h => st_pk 3 [1, 0, 2] (by decide) h)
def Cp (a0 : Ak) (a1 : Str) : Option Bool :=
 om a0.r (none) fun x6 => (Bd x6 a1).bind fun r14 => some r14.2
theorem Cp.ok {G R F} (b0_ : Nat) (a0 : Ak) (g0_ : Ak.G) (a1 : Str) (r : Bool) (hm : Cp a0 a1 = some r) : CO Tryz.prog 38 [pt b0_ 0, vS a1] G R (Bk b0_ 92 [vI a0.most, g0_.s.1, g0_.r.1] :: rO (Aj.op g0_.s.2) g0_.s.1 a0.s :: rO (Ae.op g0_.r.2) g0_.r.1 a0.r :: F)
  (Ret fun u R' L' => u = vB r ∧ R' = R ∧ L' = Bk b0_ 92 [vI a0.most, g0_.s.1, g0_.r.1] :: rO (Aj.op g0_.s.2) g0_.s.1 a0.s :: rO (Ae.op g0_.r.2) g0_.r.1 a0.r :: F) := by
 obtain ⟨⟨pv1, g2⟩, ⟨pv4, g5⟩⟩ := g0_
 unfold Cp at hm
 refine co_ofN (N := 19) Tryz.func38 z z ?_
 refine csr ?_
 refine r_as z ?_
 refine nssr ?_
 refine r_mv z (r_bin z z (bP_eqp Tryz.underlying61) ?_)
 refine nsq ?_
 refine c_ff z ?_
 refine c_skip (x_seq (c_seq ?_))
 refine cd_st (fun _ h => mv2 h) ?_
 refine cd_opt (fun ho8 => ?_) (fun x6 b7 ho8 => ?_)
 ·rintro rfl
  have hm9 := om_n hm ho8
  clear hm
  cases hm9
 rintro rfl
 have hm9 := om_s hm ho8
 clear hm
 refine cd_st (fun _ h => st_star_o h) ?_
 refine c_reg ?_
 refine r_mv z (r_nc z (r_fa fa92_2 z (r_ld 5 sc82 z z z (r_mv z ?_))))
 obtain ⟨r14, hr14, hm15⟩ := bs hm9
 clear hm9
 refine r_c (s_w (o_call ca76 z (Bd.ok b7 x6 g5 a1 r14 hr14))) ?_
 refine r_mv z ?_
 refine r_ext z z ?_
 refine r_ext z z (r_as z (r_as z ?_))
 refine nsr ?_
 refine r_mv z (r_as z ?_)
 refine r_nil (x_seq (c_ret ?_))
 refine ex_st (fun _ h => st_some (f := Ae.op g5) (a := x6) (st_star_f (A := Ae.fl b7 x6 g5) h)) ?_
 refine ex_st (fun _ h => st_back ho8 h) ?_
 obtain rfl := si hm15
 refine ex_st (fun _ h => st_pk 3 [1, 2, 0] (by decide) h) ?_
 exact x_r1 z (rv_t z) (Le.refl _) ⟨_, z, z, z, z⟩
def Bv (a0 : UInt64) (a1 : Int) : UInt64 :=
 (shWl a0 (((toW a1) &&& 63).toNat : Int)) ||| (shWr a0 ((64 - ((toW a1) &&& 63)).toNat : Int))
theorem Bv.ok {G R F} (a0 : UInt64) (a1 : Int) (r : UInt64) (hm : Bv a0 a1 = r) : CO Tryz.prog 144 [vW a0, vI a1] G R (F)
  (Ret fun u R' L' => u = vW r ∧ R' = R ∧ L' = F) := by
 unfold Bv at hm
 refine co_ofN (N := 17) Tryz.func144 z z ?_
 refine csr ?_
 refine r_as z ?_
 refine nsr ?_
 refine r_mv z (r_u (o_cv z (cIW Tryz.underlying3 Tryz.underlying176 a1)) (r_bin z z (bW_and (toW a1) 63) (r_as z ?_)))
 refine nsr ?_
 refine r_mv z (r_mv z (r_bin z z (bWW_shl a0 ((toW a1) &&& 63)) (r_mv z (r_mv z (r_bin z z (bW_sub 64 ((toW a1) &&& 63)) (r_bin z z (bWW_shr a0 (64 - ((toW a1) &&& 63))) (r_u (o_bin z z (bW_or (shWl a0 (((toW a1) &&& 63).toNat : Int)) (shWr a0 ((64 - ((toW a1) &&& 63)).toNat : Int)))) (r_as z ?_))))))))
 refine r_nil (x_seq (c_ret ?_))
 subst hm
 exact x_r1 z (rv_t z) (Le.refl _) ⟨_, z, z, z, z⟩
def Cl (a0 : UInt64) : UInt64 :=
 ((Bv ((a0 ^^^ (shWr a0 ((32 : UInt64).toNat : Int))) * 11400714819323198485) 29) * 11400714819323198485) ^^^ (shWr ((Bv ((a0 ^^^ (shWr a0 ((32 : UInt64).toNat : Int))) * 11400714819323198485) 29) * 11400714819323198485) ((32 : UInt64).toNat : Int))
theorem Cl.ok {G R F} (a0 : UInt64) (r : UInt64) (hm : Cl a0 = r) : CO Tryz.prog 141 [vW a0] G R (F)
  (Ret fun u R' L' => u = vW r ∧ R' = R ∧ L' = F) := by
 unfold Cl at hm
 refine co_ofN (N := 17) Tryz.func141 z z ?_
 refine csr ?_
 refine r_as z ?_
 refine nsr ?_
 refine r_mv z (r_mv z (r_bin z z (bWW_shr a0 32) (r_bin z z (bW_xor a0 (shWr a0 ((32 : UInt64).toNat : Int))) (r_as z ?_))))
 refine nsr ?_
 refine r_mv z (r_u (o_bin z z (bW_mul (a0 ^^^ (shWr a0 ((32 : UInt64).toNat : Int))) 11400714819323198485)) (r_as z ?_))
 refine nsr ?_
 refine r_mv z ?_
 refine r_u (o_callq ca144 z (Bv.ok ((a0 ^^^ (shWr a0 ((32 : UInt64).toNat : Int))) * 11400714819323198485) 29 _ z)) (r_as z ?_)
 refine nsr ?_
 refine r_mv z (r_u (o_bin z z (bW_mul (Bv ((a0 ^^^ (shWr a0 ((32 : UInt64).toNat : Int))) * 11400714819323198485) 29) 11400714819323198485)) (r_as z ?_))
 refine nsr ?_
 refine r_mv z (r_mv z (r_u (o_bin z z (bWW_shr ((Bv ((a0 ^^^ (shWr a0 ((32 : UInt64).toNat : Int))) * 11400714819323198485) 29) * 11400714819323198485) 32)) (r_u (o_bin z z (bW_xor ((Bv ((a0 ^^^ (shWr a0 ((32 : UInt64).toNat : Int))) * 11400714819323198485) 29) * 11400714819323198485) (shWr ((Bv ((a0 ^^^ (shWr a0 ((32 : UInt64).toNat : Int))) * 11400714819323198485) 29) * 11400714819323198485) ((32 : UInt64).toNat : Int)))) (r_as z ?_))))
 refine r_nil (x_seq (c_ret ?_))
 subst hm
 exact x_r1 z (rv_t z) (Le.refl _) ⟨_, z, z, z, z⟩
def Do (a1 : Str) : Nat → UInt64 → Int → Option (UInt64)
 | 0, _, _ => none
 | k9 + 1, h_7, s_8 => if decide (s_8 < (a1.length : Int)) then (gi a1 s_8).bind fun x14 => Do a1 k9 ((h_7 ^^^ x14.toUInt64) * 1099511628211) (i64 (s_8 + 1)) else some h_7
def DA (a0 : UInt64) (a1 : Str) : Option UInt64 :=
 if a1.length ≤ maxLen then Option.bind (Do a1 (((a1.length : Int) - 0).toNat + 1) (14695981039346656037 ^^^ (Cl a0)) 0) fun p3 => some (Cl (p3 ^^^ (toW (a1.length : Int)))) else none
theorem DA.ok {G R F} (a0 : UInt64) (a1 : Str) (r : UInt64) (hm : DA a0 a1 = some r) : CO Tryz.prog 137 [vW a0, vS a1] G R (F)
  (Ret fun u R' L' => u = vW r ∧ R' = R ∧ L' = F) := by
 unfold DA at hm
 refine co_ofN (N := 30) Tryz.func137 z z ?_
 refine csr ?_
 refine r_as z ?_
 refine nsr ?_
 refine r_mv z ?_
 refine r_u (o_callq ca141 z (Cl.ok a0 _ z)) (r_bin z z (bW_xor 14695981039346656037 (Cl a0)) (r_as z ?_))
 refine nssr ?_
 refine r_mv z ?_
 obtain ⟨h0, hm2⟩ := ig hm
 clear hm
 refine r_sw (s_w (o_sb Tryz.underlying9 Tryz.underlying111 Tryz.underlying5 z h0)) ?_
 rintro v1 R _ _ ⟨rfl, rfl⟩
 refine r_u (o_lenO 0 Tryz.underlying111 z z) (r_mv z ?_)
 refine nsq ?_
 obtain ⟨p3, hp4, hm5⟩ := bs hm2
 refine cd_join (E' := [(1, vS a1), (5, vW p3)]) (L' := OwS false 5 1 eY v1 a1 :: F) ?_ fun K6 => ?_
 ·refine x_seq (csr ?_)
  refine r_mv z (r_mv z (r_u (o_lenS Tryz.underlying9 z) (r_u (o_cv z (cIW Tryz.underlying3 Tryz.underlying27 (a1.length : Int))) (r_bin z z (bW_xor p3 (toW (a1.length : Int))) ?_))))
  refine r_u (o_callq ca141 z (Cl.ok (p3 ^^^ (toW (a1.length : Int))) _ z)) (r_as z ?_)
  refine r_nil (x_seq (c_ret ?_))
  obtain rfl := si hm5
  refine ex_st (fun _ h => st_pk 1 [] (by decide) h) ?_
  exact x_r1 z (rv_t z) (Le.refl _) ⟨_, z, z, z, z⟩
 refine c_blk ?_
 refine cd_loop (M := fun k9 (s : UInt64 × Int) => Do a1 k9 s.1 s.2 = some p3) (Ef := fun (s : UInt64 × Int) => [(1, vS a1), (12, v1), (13, vI (a1.length : Int)), (5, vW s.1), (14, vI s.2)]) (Lf := fun (s : UInt64 × Int) => OwS false 5 1 eY v1 a1 :: F) (((a1.length : Int) - 0).toNat + 1) (14695981039346656037 ^^^ (Cl a0), 0) hp4 ⟨z, z, z, z, z, trivial⟩ (fun _ h => h) (fun _ h => by cases h) fun k9 s hM11 => ?_
 obtain ⟨h_7, s_8⟩ := s
 have hm10 : Do a1 (k9 + 1) h_7 s_8 = some p3 := hM11
 rw [Do] at hm10
 refine csr ?_
 refine r_bin z z (bI_lt s_8 (a1.length : Int)) ?_
 refine r_nil (x_seq (c_seq ?_))
 refine c_if (b := decide (s_8 < (a1.length : Int))) z (fun h12 => ?_) fun h12 => ?_
 ·have hm13 := ift hm10 h12
  clear hm10
  refine c_skip (x_seq (c_seq (c_blk (csr ?_))))
  obtain ⟨x14, hx14, hm15⟩ := bs hm13
  clear hm13
  refine r_u (o_ixO 0 Tryz.underlying111 (fun _ => by kernel_rfl) z z z hx14) (r_u (o_ldO0 0 sc5 z z hx14 z z) (r_as z ?_))
  refine r_nil (x_seq (c_reg ?_))
  refine r_mv z (r_mv z (r_u (o_cv z (cYW Tryz.underlying5 Tryz.underlying27 x14)) (r_bin z z (bW_xor h_7 x14.toUInt64) (r_bin z z (bW_mul (h_7 ^^^ x14.toUInt64) 1099511628211) (r_as z ?_)))))
  refine r_nil (x_blk (x_seq (c_reg ?_)))
  refine r_bin z z (bI_add s_8 1) (r_mv z ?_)
  refine r_nil ?_
  exact x_lp ((h_7 ^^^ x14.toUInt64) * 1099511628211, i64 (s_8 + 1)) hm15 ⟨z, z, z, z, z, trivial⟩ (fun _ h => st_pk 1 [0] (by decide) h)
 have hm13 := iff_ hm10 h12
 clear hm10
 refine c_exit (x_exit (ks' := _) z ?_)
 obtain rfl := si hm13
 exact x_sub K6 ⟨z, z, trivial⟩ (fun _ h => st_pk 1 [0] (by decide) h)
def Dq (a0 : UInt64) (a1 : UInt64) : UInt64 × UInt64 :=
 ((((shWr a0 ((32 : UInt64).toNat : Int)) * (shWr a1 ((32 : UInt64).toNat : Int))) + (shWr (((shWr a0 ((32 : UInt64).toNat : Int)) * (a1 &&& 4294967295)) + (shWr ((a0 &&& 4294967295) * (a1 &&& 4294967295)) ((32 : UInt64).toNat : Int))) ((32 : UInt64).toNat : Int))) + (shWr (((((shWr a0 ((32 : UInt64).toNat : Int)) * (a1 &&& 4294967295)) + (shWr ((a0 &&& 4294967295) * (a1 &&& 4294967295)) ((32 : UInt64).toNat : Int))) &&& 4294967295) + ((a0 &&& 4294967295) * (shWr a1 ((32 : UInt64).toNat : Int)))) ((32 : UInt64).toNat : Int)), a0 * a1)
theorem Dq.ok {G R F} (a0 : UInt64) (a1 : UInt64) (r : UInt64 × UInt64) (hm : Dq a0 a1 = r) : CO Tryz.prog 140 [vW a0, vW a1] G R (F)
  (Ret fun u R' L' => u = .tuple #[vW r.1, vW r.2] ∧ R' = R ∧ L' = F) := by
 unfold Dq at hm
 refine co_ofN (N := 51) Tryz.func140 z z ?_
 refine csr ?_
 refine r_as z (r_as z ?_)
 refine nsr ?_
 refine r_mv z (r_bin z z (bW_and a0 4294967295) (r_as z ?_))
 refine nsr ?_
 refine r_mv z (r_bin z z (bWW_shr a0 32) (r_as z ?_))
 refine nsr ?_
 refine r_mv z (r_bin z z (bW_and a1 4294967295) (r_as z ?_))
 refine nsr ?_
 refine r_mv z (r_bin z z (bWW_shr a1 32) (r_as z ?_))
 refine nsr ?_
 refine r_mv z (r_mv z (r_bin z z (bW_mul (a0 &&& 4294967295) (a1 &&& 4294967295)) (r_as z ?_)))
 refine nsr ?_
 refine r_mv z (r_mv z (r_bin z z (bW_mul (shWr a0 ((32 : UInt64).toNat : Int)) (a1 &&& 4294967295)) (r_mv z (r_bin z z (bWW_shr ((a0 &&& 4294967295) * (a1 &&& 4294967295)) 32) (r_u (o_bin z z (bW_add ((shWr a0 ((32 : UInt64).toNat : Int)) * (a1 &&& 4294967295)) (shWr ((a0 &&& 4294967295) * (a1 &&& 4294967295)) ((32 : UInt64).toNat : Int)))) (r_as z ?_))))))
 refine nsr ?_
 refine r_mv z (r_u (o_bin z z (bW_and (((shWr a0 ((32 : UInt64).toNat : Int)) * (a1 &&& 4294967295)) + (shWr ((a0 &&& 4294967295) * (a1 &&& 4294967295)) ((32 : UInt64).toNat : Int))) 4294967295)) (r_as z ?_))
 refine nsr ?_
 refine r_mv z (r_u (o_bin z z (bWW_shr (((shWr a0 ((32 : UInt64).toNat : Int)) * (a1 &&& 4294967295)) + (shWr ((a0 &&& 4294967295) * (a1 &&& 4294967295)) ((32 : UInt64).toNat : Int))) 32)) (r_as z ?_))
 refine nsr ?_
 refine r_mv z (r_mv z (r_mv z (r_bin z z (bW_mul (a0 &&& 4294967295) (shWr a1 ((32 : UInt64).toNat : Int))) (r_u (o_bin z z (bW_add ((((shWr a0 ((32 : UInt64).toNat : Int)) * (a1 &&& 4294967295)) + (shWr ((a0 &&& 4294967295) * (a1 &&& 4294967295)) ((32 : UInt64).toNat : Int))) &&& 4294967295) ((a0 &&& 4294967295) * (shWr a1 ((32 : UInt64).toNat : Int))))) (r_as z ?_)))))
 refine nsr ?_
 refine r_mv z (r_mv z (r_bin z z (bW_mul (shWr a0 ((32 : UInt64).toNat : Int)) (shWr a1 ((32 : UInt64).toNat : Int))) (r_mv z (r_u (o_bin z z (bW_add ((shWr a0 ((32 : UInt64).toNat : Int)) * (shWr a1 ((32 : UInt64).toNat : Int))) (shWr (((shWr a0 ((32 : UInt64).toNat : Int)) * (a1 &&& 4294967295)) + (shWr ((a0 &&& 4294967295) * (a1 &&& 4294967295)) ((32 : UInt64).toNat : Int))) ((32 : UInt64).toNat : Int)))) (r_mv z (r_u (o_bin z z (bWW_shr (((((shWr a0 ((32 : UInt64).toNat : Int)) * (a1 &&& 4294967295)) + (shWr ((a0 &&& 4294967295) * (a1 &&& 4294967295)) ((32 : UInt64).toNat : Int))) &&& 4294967295) + ((a0 &&& 4294967295) * (shWr a1 ((32 : UInt64).toNat : Int)))) 32)) (r_u (o_bin z z (bW_add (((shWr a0 ((32 : UInt64).toNat : Int)) * (shWr a1 ((32 : UInt64).toNat : Int))) + (shWr (((shWr a0 ((32 : UInt64).toNat : Int)) * (a1 &&& 4294967295)) + (shWr ((a0 &&& 4294967295) * (a1 &&& 4294967295)) ((32 : UInt64).toNat : Int))) ((32 : UInt64).toNat : Int))) (shWr (((((shWr a0 ((32 : UInt64).toNat : Int)) * (a1 &&& 4294967295)) + (shWr ((a0 &&& 4294967295) * (a1 &&& 4294967295)) ((32 : UInt64).toNat : Int))) &&& 4294967295) + ((a0 &&& 4294967295) * (shWr a1 ((32 : UInt64).toNat : Int)))) ((32 : UInt64).toNat : Int)))) (r_as z ?_))))))))
 refine nsr ?_
 refine r_mv z (r_mv z (r_bin z z (bW_mul a0 a1) (r_as z ?_)))
 refine r_nil (x_seq (c_ret ?_))
 subst hm
 exact x_r2 z (rv_t z) (rv_t z) (Le.refl _) ⟨_, z, z, z, z⟩
def Dh (a0 : UInt64) (a1 : Int) (a2 : Int) : Int :=
 if decide (a2 < 1) then 0 else lt (Dq (Cl (a0 + ((toW a1) * 11400714819323198485))) (toW a2)) fun r2 => i64 (r2.1.toNat : Int)
theorem Dh.ok {G R F} (a0 : UInt64) (a1 : Int) (a2 : Int) (r : Int) (hm : Dh a0 a1 a2 = r) : CO Tryz.prog 136 [vW a0, vI a1, vI a2] G R (F)
  (Ret fun u R' L' => u = vI r ∧ R' = R ∧ L' = F) := by
 unfold Dh at hm
 refine co_ofN (N := 25) Tryz.func136 z z ?_
 refine csr ?_
 refine r_as z ?_
 refine nssr ?_
 refine r_mv z (r_bin z z (bI_lt a2 1) ?_)
 refine nsq ?_
 refine c_if (b := decide (a2 < 1)) z (fun h0 => ?_) fun h0 => ?_
 ·have hm1 := ift hm h0
  clear hm
  refine csr ?_
  refine r_as z ?_
  refine r_nil (x_seq (c_ret ?_))
  subst hm1
  exact x_r1 z (rv_t z) (Le.refl _) ⟨_, z, z, z, z⟩
 have hm1 := iff_ hm h0
 clear hm
 refine c_skip (x_seq (csr ?_))
 refine r_mv z (r_mv z (r_u (o_cv z (cIW Tryz.underlying3 Tryz.underlying27 a1)) (r_bin z z (bW_mul (toW a1) 11400714819323198485) (r_bin z z (bW_add a0 ((toW a1) * 11400714819323198485)) ?_))))
 refine r_u (o_callq ca141 z (Cl.ok (a0 + ((toW a1) * 11400714819323198485)) _ z)) (r_mv z (r_u (o_cv z (cIW Tryz.underlying3 Tryz.underlying27 a2)) ?_))
 obtain ⟨r2, hr2, hm3⟩ := ltx hm1
 clear hm1
 refine r_u (o_callq ca140 z (Dq.ok (Cl (a0 + ((toW a1) * 11400714819323198485))) (toW a2) r2 hr2)) (r_mv z ?_)
 refine r_ext z z ?_
 refine r_ext z z (r_as z (r_as z ?_))
 refine nsr ?_
 refine r_mv z (r_u (o_cv z (cWI Tryz.underlying27 Tryz.underlying3 r2.1)) (r_as z ?_))
 refine r_nil (x_seq (c_ret ?_))
 subst hm3
 exact x_r1 z (rv_t z) (Le.refl _) ⟨_, z, z, z, z⟩
def Ba (a0 : Aj) (a1 : Str) (a2 : Int) : Option Int :=
 (DA a0.seed a1).bind fun r2 => some (Dh r2 a2 a0.wide)
theorem Ba.ok {G R F} (b0_ : Nat) (a0 : Aj) (g0_ : Aj.G) (a1 : Str) (a2 : Int) (r : Int) (hm : Ba a0 a1 a2 = some r) : CO Tryz.prog 125 [pt b0_ 0, vS a1, vI a2] G R (Bk b0_ 143 (Aj.k a0 g0_) :: OwL (OwS false 5 1 eY) [g0_.rows.1, g0_.rows.2.1, g0_.rows.2.2.1, g0_.rows.2.2.2] a0.rows :: OwS true 4 1 eB g0_.door a0.door :: F)
  (Ret fun u R' L' => u = vI r ∧ R' = R ∧ L' = Bk b0_ 143 (Aj.k a0 g0_) :: OwL (OwS false 5 1 eY) [g0_.rows.1, g0_.rows.2.1, g0_.rows.2.2.1, g0_.rows.2.2.2] a0.rows :: OwS true 4 1 eB g0_.door a0.door :: F) := by
 unfold Ba at hm
 refine co_ofN (N := 19) Tryz.func125 z z ?_
 refine csr ?_
 refine r_as z ?_
 refine r_nil (x_seq (c_seq ?_))
 obtain ⟨r2, hr2, hm3⟩ := bs hm
 clear hm
 refine c_any mixed (effs := []) (V := []) ?_
 refine stage_ext [(0, pt b0_ 0), (1, pt b0_ 0), (2, pt b0_ 1), (3, vW a0.seed), (4, vS a1), (5, vW r2), (6, vI a2), (7, pt b0_ 0), (8, pt b0_ 0), (9, pt b0_ 0), (10, vI a0.wide), (11, vI (Dh r2 a2 a0.wide)), (12, vI (Dh r2 a2 a0.wide))] z ?_
 refine stage z z z z [0, 1, 3, 7, 0, 31, 0, 0, 128, 384, 896, 2047, 4095] [0, 1, 2, 3, 4, 5, 6, 7, 8, 9, 10, 11, 12] [] z z z (q_mv z z z (q_u z z (o_nc z) (q_fa z z fa143_1 z (q_ld z z 0 sc27 z z z (q_mv z z z (q_u z z (o_callq ca137 z (DA.ok a0.seed a1 r2 hr2)) (q_mv z z z (q_mv z z z (q_u z z (o_nc z) (q_fa z z fa143_0 z (q_ld z z 0 sc3 z z z (q_u z z (o_callq ca136 z (Dh.ok r2 a2 a0.wide _ z)) (q_u z z (o_as z) qn))))))))))))) en ?_
 intro _
 refine ex_sub (E' := [(6, vI (Dh r2 a2 a0.wide))]) ⟨z, trivial⟩ ?_
 refine x_seq (c_ret ?_)
 obtain rfl := si hm3
 exact x_r1 z (rv_t z) (Le.refl _) ⟨_, z, z, z, z⟩
def Bj (a0 : Aj) (a1 : Str) : Nat → UInt8 → Int → Option (UInt8)
 | 0, _, _ => none
 | k8 + 1, n_6, s_7 => if decide (s_7 < 4) then (gi a0.rows s_7).bind fun y13 => (Ba a0 a1 s_7).bind fun r16 => (gi y13 r16).bind fun x18 => Bj a0 a1 k8 (if x18 < n_6 then x18 else n_6) (i64 (s_7 + 1)) else some n_6
def Br (a0 : Aj) (a1 : Str) : Option UInt8 :=
 Option.bind (Bj a0 a1 5 15 0) fun p2 => some p2
theorem Br.ok {G R F} (b0_ : Nat) (a0 : Aj) (g0_ : Aj.G) (a1 : Str) (r : UInt8) (hm : Br a0 a1 = some r) : CO Tryz.prog 126 [pt b0_ 0, vS a1] G R (Bk b0_ 143 (Aj.k a0 g0_) :: OwL (OwS false 5 1 eY) [g0_.rows.1, g0_.rows.2.1, g0_.rows.2.2.1, g0_.rows.2.2.2] a0.rows :: OwS true 4 1 eB g0_.door a0.door :: F)
  (Ret fun u R' L' => u = vY r ∧ R' = R ∧ L' = Bk b0_ 143 (Aj.k a0 g0_) :: OwL (OwS false 5 1 eY) [g0_.rows.1, g0_.rows.2.1, g0_.rows.2.2.1, g0_.rows.2.2.2] a0.rows :: OwS true 4 1 eB g0_.door a0.door :: F) := by
 unfold Br at hm
 refine co_ofN (N := 26) Tryz.func126 z z ?_
 refine csr ?_
 refine r_as z ?_
 refine nsr ?_
 refine r_as z ?_
 refine nssr ?_
 refine r_mv z ?_
 refine nsq ?_
 obtain ⟨p2, hp3, hm4⟩ := bs hm
 refine cd_join (E' := [(5, vY p2)]) (L' := Bk b0_ 143 (Aj.k a0 g0_) :: OwL (OwS false 5 1 eY) [g0_.rows.1, g0_.rows.2.1, g0_.rows.2.2.1, g0_.rows.2.2.2] a0.rows :: OwS true 4 1 eB g0_.door a0.door :: F) ?_ fun K5 => ?_
 ·refine x_seq (csr ?_)
  refine r_mv z (r_as z ?_)
  refine r_nil (x_seq (c_ret ?_))
  obtain rfl := si hm4
  exact x_r1 z (rv_t z) (Le.refl _) ⟨_, z, z, z, z⟩
 refine c_blk ?_
 refine cd_loop (M := fun k8 (s : UInt8 × Int) => Bj a0 a1 k8 s.1 s.2 = some p2) (Ef := fun (s : UInt8 × Int) => [(0, pt b0_ 0), (1, vS a1), (5, vY s.1), (7, vI s.2)]) (Lf := fun (s : UInt8 × Int) => Bk b0_ 143 (Aj.k a0 g0_) :: OwL (OwS false 5 1 eY) [g0_.rows.1, g0_.rows.2.1, g0_.rows.2.2.1, g0_.rows.2.2.2] a0.rows :: OwS true 4 1 eB g0_.door a0.door :: F) 5 (15, 0) hp3 ⟨z, z, z, z, trivial⟩ (fun _ h => h) (fun _ h => by cases h) fun k8 s hM10 => ?_
 obtain ⟨n_6, s_7⟩ := s
 have hm9 : Bj a0 a1 (k8 + 1) n_6 s_7 = some p2 := hM10
 rw [Bj] at hm9
 refine csr ?_
 refine r_bin z z (bI_lt s_7 4) ?_
 refine r_nil (x_seq (c_seq ?_))
 refine c_if (b := decide (s_7 < 4)) z (fun h11 => ?_) fun h11 => ?_
 rotate_left
 ·have hm12 := iff_ hm9 h11
  clear hm9
  refine c_exit (x_exit (ks' := _) z ?_)
  obtain rfl := si hm12
  exact x_sub K5 ⟨z, trivial⟩ (fun _ h => st_pk 3 [0, 1, 2] (by decide) h)
 have hm12 := ift hm9 h11
 clear hm9
 refine c_skip (x_seq (c_seq (c_blk (csr ?_))))
 refine r_mv z (r_as z ?_)
 refine nsq ?_
 obtain ⟨y13, hy13, hm15⟩ := bs hm12
 clear hm12
 refine cd_ex (fun w h => st_peek 1 hy13 z w h) fun u14 hu14 => ?_
 obtain ⟨r16, hr16, hm17⟩ := bs hm15
 clear hm15
 obtain ⟨x18, hx18, hm19⟩ := bs hm17
 clear hm17
 refine c_any mixed (effs := []) (V := []) ?_
 refine stage_ext [(0, vY n_6), (1, pt b0_ 0), (2, vI s_7), (3, pt b0_ 0), (4, pt b0_ 2), (5, pt b0_ (2 + s_7.toNat * 1)), (6, u14), (7, pt b0_ 0), (8, vS a1), (9, vI s_7), (10, vI r16), (11, pt (sb u14) (so u14 + r16.toNat * 1)), (12, vY x18), (13, vY (if x18 < n_6 then x18 else n_6)), (14, vY (if x18 < n_6 then x18 else n_6))] z ?_
 refine stage z z z z [0, 0, 0, 2, 10, 30, 62, 0, 0, 0, 896, 2046, 4094, 8191, 16383] [0, 1, 2, 3, 4, 5, 6, 7, 8, 9, 10, 11, 12, 13, 14] [] z z z (q_mv z z z (q_mv z z z (q_mv z z z (q_u z z (o_nc z) (q_fa z z fa143_2 z (q_u z z (o_ixA (sz := 1) Tryz.underlying141 (fun _ => by kernel_rfl) z z (gi_some hu14).1) (q_u z z (o_ldA (o := 2) (n := 4) 0 sc111 z z hu14) (q_mv z z z (q_mv z z z (q_mv z z z (q_u z z (o_callqP ca125 z (Ba.ok b0_ a0 g0_ a1 s_7 r16 hr16) (fun _ h => st_pk 3 [0, 1, 2] (by decide) h) (fun _ h => st_pk 3 [0, 1, 2] (by decide) h)) (q_u z z (o_ixK (kn_in 1 z hu14 hy13) Tryz.underlying111 (fun _ => by kernel_rfl) z z hx18) (q_u z z (o_ldK (kn_in 1 z hu14 hy13) 0 sc5 z hx18 z z) (q_u z z (o_minY z z) (q_u z z (o_as z) qn))))))))))))))) en ?_
 intro _
 refine ex_sub (E' := [(0, pt b0_ 0), (1, vS a1), (5, vY (if x18 < n_6 then x18 else n_6)), (7, vI s_7)]) ⟨z, z, z, z, trivial⟩ ?_
 refine x_blk (x_seq (c_reg ?_))
 refine r_bin z z (bI_add s_7 1) (r_mv z ?_)
 refine r_nil ?_
 exact x_lp ((if x18 < n_6 then x18 else n_6), i64 (s_7 + 1)) hm19 ⟨z, z, z, z, trivial⟩ (fun _ h => st_pk 3 [0, 1, 2] (by decide) h)
def Bl (s_6 : Int) (y17 : List UInt8) : Nat → Int → (List (List UInt8)) → Option (List (List UInt8))
 | 0, _, _ => none
 | k26 + 1, s_24, c_25 => if decide (s_24 < (y17.length : Int)) then (gi c_25 s_6).bind fun y31 => (gi y31 s_24).bind fun x34 => Bl s_6 y17 k26 (i64 (s_24 + 1)) (ls c_25 s_6 (ls y31 s_24 (x34 / 2))) else some c_25
def By  : Nat → Int → (List (List UInt8)) → Option (List (List UInt8))
 | 0, _, _ => none
 | k8 + 1, s_6, c_7 => if decide (s_6 < 4) then Option.bind ((gi c_7 s_6).bind fun y17 => Option.bind (Bl s_6 y17 (((y17.length : Int) - 0).toNat + 1) 0 c_7) fun p20 => some p20) fun p13 => By k8 (i64 (s_6 + 1)) p13 else some c_7
def Ct (a0 : Aj) : Option Aj :=
 Option.bind (By 5 0 a0.rows) fun p2 => some (⟨a0.wide, a0.seed, p2, List.replicate a0.door.length false, i64 (a0.added.tdiv 2)⟩ : Aj)
theorem Ct.ok {G R F} (b0_ : Nat) (a0 : Aj) (g0_ : Aj.G) (r : Aj) (hm : Ct a0 = some r) : CO Tryz.prog 127 [pt b0_ 0] G R (Bk b0_ 143 (Aj.k a0 g0_) :: OwL (OwS false 5 1 eY) [g0_.rows.1, g0_.rows.2.1, g0_.rows.2.2.1, g0_.rows.2.2.2] a0.rows :: OwS true 4 1 eB g0_.door a0.door :: F)
  (Ret fun u R' L' => u = .tuple #[] ∧ R' = R ∧ L' = Bk b0_ 143 (Aj.k r g0_) :: OwL (OwS false 5 1 eY) [g0_.rows.1, g0_.rows.2.1, g0_.rows.2.2.1, g0_.rows.2.2.2] r.rows :: OwS true 4 1 eB g0_.door r.door :: F) := by
 unfold Ct at hm
 refine co_ofN (N := 43) Tryz.func127 z z ?_
 refine c_seq (csr ?_)
 refine r_mv z (r_bin z z (bP_eqp Tryz.underlying87) ?_)
 refine nsq ?_
 refine c_ff z ?_
 refine c_skip (x_seq (c_seq (csr ?_)))
 refine r_mv z ?_
 refine nsq ?_
 obtain ⟨p2, hp3, hm4⟩ := bs hm
 refine cd_join (E' := [(0, pt b0_ 0)]) (L' := Bk b0_ 143 (Aj.k a0 g0_) :: OwL (OwS false 5 1 eY) [g0_.rows.1, g0_.rows.2.1, g0_.rows.2.2.1, g0_.rows.2.2.2] p2 :: OwS true 4 1 eB g0_.door a0.door :: F) ?_ fun K5 => ?_
 ·refine x_seq (csr ?_)
  refine r_mv z (r_nc z (r_fa fa143_3 z (r_ld 0 sc34 z z z ?_)))
  refine rl_st (fun _ h => mv2 h) ?_
  refine r_u0 (o_clr (e := 4) (z1 := false) Tryz.underlying34 z z z z ⟨_, z, z⟩ z z) ?_
  refine r_nil (x_seq (c_reg ?_))
  refine r_mv z (r_nc z (r_fa fa143_4 z (r_ld 1 sc3 z z z (r_bin z z (bI_quo a0.added 2 (by decide)) (r_nc z (r_fa fa143_4 z ?_))))))
  refine rl_st (fun _ h => mv1 h) ?_
  refine r_u0 (o_st sc3 z z z z z z) ?_
  refine r_nil ?_
  refine x_end ?_
  obtain rfl := si hm4
  refine ex_st (fun _ h => st_pk 3 [0, 2, 1] (by decide) h) ?_
  exact x_r0 z (Le.refl _) ⟨_, z, z, z, z⟩
 refine c_blk ?_
 refine cd_loop (M := fun k8 (s : Int × List (List UInt8)) => By k8 s.1 s.2 = some p2) (Ef := fun (s : Int × List (List UInt8)) => [(0, pt b0_ 0), (6, vI s.1)]) (Lf := fun (s : Int × List (List UInt8)) => Bk b0_ 143 (Aj.k a0 g0_) :: OwL (OwS false 5 1 eY) [g0_.rows.1, g0_.rows.2.1, g0_.rows.2.2.1, g0_.rows.2.2.2] s.2 :: OwS true 4 1 eB g0_.door a0.door :: F) 5 (0, a0.rows) hp3 ⟨z, z, trivial⟩ (fun _ h => h) (fun _ h => by cases h) fun k8 s hM10 => ?_
 obtain ⟨s_6, c_7⟩ := s
 have hm9 : By (k8 + 1) s_6 c_7 = some p2 := hM10
 rw [By] at hm9
 refine csr ?_
 refine r_bin z z (bI_lt s_6 4) ?_
 refine r_nil (x_seq (c_seq ?_))
 refine c_if (b := decide (s_6 < 4)) z (fun h11 => ?_) fun h11 => ?_
 rotate_left
 ·have hm12 := iff_ hm9 h11
  clear hm9
  refine c_exit (x_exit (ks' := _) z ?_)
  obtain rfl := si hm12
  exact x_sub K5 ⟨z, trivial⟩ (fun _ h => st_pk 3 [0, 1, 2] (by decide) h)
 have hm12 := ift hm9 h11
 clear hm9
 refine c_skip (x_seq (c_seq ?_))
 obtain ⟨p13, hp14, hm15⟩ := bs hm12
 refine cd_join (E' := [(0, pt b0_ 0), (6, vI s_6)]) (L' := Bk b0_ 143 (Aj.k a0 g0_) :: OwL (OwS false 5 1 eY) [g0_.rows.1, g0_.rows.2.1, g0_.rows.2.2.1, g0_.rows.2.2.2] p13 :: OwS true 4 1 eB g0_.door a0.door :: F) ?_ fun K16 => ?_
 ·refine x_seq (c_reg ?_)
  refine r_bin z z (bI_add s_6 1) (r_mv z ?_)
  refine r_nil ?_
  exact x_lp (i64 (s_6 + 1), p13) hm15 ⟨z, z, trivial⟩ (fun _ h => st_pk 3 [0, 1, 2] (by decide) h)
 refine c_blk (csr ?_)
 refine r_mv z (r_as z ?_)
 refine nsr ?_
 refine r_mv z (r_mv z (r_nc z (r_fa fa143_2 z ?_)))
 obtain ⟨y17, hy17, hm19⟩ := bs hp14
 clear hp14
 refine rl_ex (fun w h => st_peek 1 hy17 z w h) fun u18 hu18 => ?_
 refine r_u (o_ixA (sz := 1) Tryz.underlying141 (fun _ => by kernel_rfl) z z (gi_some hu18).1) ?_
 refine r_u (o_ldA (o := 2) (n := 4) 0 sc111 z z hu18) ?_
 refine r_u (o_lenK (kn_in 1 z hu18 hy17) Tryz.underlying111 z) (r_mv z ?_)
 refine nsq ?_
 obtain ⟨p20, hp21, hm22⟩ := bs hm19
 refine cd_join (E' := [(0, pt b0_ 0), (6, vI s_6)]) (L' := Bk b0_ 143 (Aj.k a0 g0_) :: OwL (OwS false 5 1 eY) [g0_.rows.1, g0_.rows.2.1, g0_.rows.2.2.1, g0_.rows.2.2.2] p20 :: OwS true 4 1 eB g0_.door a0.door :: F) ?_ fun K23 => ?_
 ·refine x_blk ?_
  obtain rfl := si hm22
  exact x_sub K16 ⟨z, z, trivial⟩ (fun _ h => st_pk 3 [0, 1, 2] (by decide) h)
 refine c_blk ?_
 refine cd_loop (M := fun k26 (s : Int × List (List UInt8)) => Bl s_6 y17 k26 s.1 s.2 = some p20) (Ef := fun (s : Int × List (List UInt8)) => [(0, pt b0_ 0), (2, vI s_6), (6, vI s_6), (15, vI (y17.length : Int)), (16, vI s.1)]) (Lf := fun (s : Int × List (List UInt8)) => Bk b0_ 143 (Aj.k a0 g0_) :: OwL (OwS false 5 1 eY) [g0_.rows.1, g0_.rows.2.1, g0_.rows.2.2.1, g0_.rows.2.2.2] s.2 :: OwS true 4 1 eB g0_.door a0.door :: F) (((y17.length : Int) - 0).toNat + 1) (0, c_7) hp21 ⟨z, z, z, z, z, trivial⟩ (fun _ h => h) (fun _ h => by cases h) fun k26 s hM28 => ?_
 obtain ⟨s_24, c_25⟩ := s
 have hm27 : Bl s_6 y17 (k26 + 1) s_24 c_25 = some p20 := hM28
 rw [Bl] at hm27
 refine csr ?_
 refine r_bin z z (bI_lt s_24 (y17.length : Int)) ?_
 refine r_nil (x_seq (c_seq ?_))
 refine c_if (b := decide (s_24 < (y17.length : Int))) z (fun h29 => ?_) fun h29 => ?_
 rotate_left
 ·have hm30 := iff_ hm27 h29
  clear hm27
  refine c_exit (x_exit (ks' := _) z ?_)
  obtain rfl := si hm30
  exact x_sub K23 ⟨z, z, trivial⟩ (fun _ h => st_pk 3 [0, 1, 2] (by decide) h)
 have hm30 := ift hm27 h29
 clear hm27
 refine c_skip (x_seq (c_seq (c_blk (csr ?_))))
 refine r_mv z (r_as z ?_)
 refine r_nil (x_seq (c_reg ?_))
 refine r_mv z (r_mv z (r_nc z (r_fa fa143_2 z ?_)))
 obtain ⟨y31, hy31, hm33⟩ := bs hm30
 clear hm30
 refine rl_ex (fun w h => st_peek 1 hy31 z w h) fun u32 hu32 => ?_
 refine r_u (o_ixA (sz := 1) Tryz.underlying141 (fun _ => by kernel_rfl) z z (gi_some hu32).1) ?_
 refine r_u (o_ldA (o := 2) (n := 4) 0 sc111 z z hu32) (r_mv z ?_)
 obtain ⟨x34, hx34, hm35⟩ := bs hm33
 clear hm33
 refine r_u (o_ixK (kn_in 1 z hu32 hy31) Tryz.underlying111 (fun _ => by kernel_rfl) z z hx34) ?_
 refine r_u (o_ldK (kn_in 1 z hu32 hy31) 0 sc5 z hx34 z z) (r_bin z z (bY_quo x34 2 (by decide)) ?_)
 refine r_u (o_ixK (kn_in 1 z hu32 hy31) Tryz.underlying111 (fun _ => by kernel_rfl) z z hx34) ?_
 refine rl_st (fun _ h => mv1 h) ?_
 refine r_u0 (o_stL (c' := x34 / 2) 0 hu32 hy31 sc5 z z z hx34 z z z) ?_
 refine r_nil (x_blk (x_seq (c_reg ?_)))
 refine r_bin z z (bI_add s_24 1) (r_mv z ?_)
 refine r_nil ?_
 exact x_lp (i64 (s_24 + 1), ls c_25 s_6 (ls y31 s_24 (x34 / 2))) hm35 ⟨z, z, z, z, z, trivial⟩ (fun _ h => st_pk 3 [1, 0, 2] (by decide) h)
end Go.Proofs.YthngfieikhillaaGreat
