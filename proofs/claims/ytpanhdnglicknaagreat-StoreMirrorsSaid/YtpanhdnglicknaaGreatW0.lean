import Derived.Test.YtpanhdnglicknaaGreatFacts
import Derived.Test.YtpanhdnglicknaaGreatHwZ
import Derived.Test.YtpanhdnglicknaaGreatHwW
import Derived.Test.YtpanhdnglicknaaGreatHw8
set_option linter.unusedVariables false
set_option linter.unusedSectionVars false
set_option linter.unusedSimpArgs false
set_option maxRecDepth 100000
set_option maxHeartbeats 4000000
namespace Go.Proofs.YtpanhdnglicknaaGreat
open Go Go.Proofs.YtpanhdnglicknaaGreat.Hw
theorem noEsc(v:Value)(w:World):(callFunc 187 #[v]).run Tryz.prog w = .ok (.value v) w:=by
 rw [run_callFunc_extern Tryz.func187 (by kernel_rfl) (by kernel_rfl) (by kernel_rfl) (e:=Extern.AbiNoEscape.same) (by kernel_rfl),Lib.run_noEscape]
 rfl
theorem infoB:∃j,Tryz.prog.info? 167=some j∧j.size≠0:=⟨_,rfl,by decide⟩
theorem bld_copyCheck.ok{G R F}(b:Nat)(p v:Value)(hp:p=nl∨p=pt b 0):CO Tryz.prog 144 [pt b 0] G R (Blk b (.cells (List.toArray [p,v]) 167 (0,0))::F)
  (Ret fun u R' L'=>u = .tuple #[]∧R'=R∧L'=Blk b (.cells (List.toArray [pt b 0,v]) 167 (0,0))::F):=by
 obtain ⟨j,hj,hj0⟩:=infoB
 refine co_ofN (N:=20) Tryz.func144 rfl rfl ?_
 refine c_seq ?_
 refine c_reg ?_
 refine r_u (o_mv rfl) ?_
 refine r_u (o_nc rfl) ?_
 refine r_u (o_fa fa167_0 rfl) ?_
 refine r_u (o_ld 0 sc165 rfl rfl rfl) ?_
 rcases hp with rfl | rfl
 ·refine r_u (o_bin rfl rfl (bP_eqn Tryz.underlying165)) ?_
  refine r_nil ?_
  refine x_seq ?_
  refine c_tt rfl ?_
  refine c_reg ?_
  refine r_u (o_mv rfl) ?_
  refine r_u (o_mv rfl) ?_
  refine r_u (o_tu 0 Tryz.underlying165 Tryz.underlying259 hj hj0 rfl rfl rfl) ?_
  refine r_u (o_same noEsc rfl) ?_
  refine r_u (o_fu 0 Tryz.underlying259 Tryz.underlying165 hj rfl rfl (by kernel_rfl)) ?_
  refine r_u (o_nc rfl) ?_
  refine r_u (o_fa fa167_0 rfl) ?_
  refine r_u0 (o_st sc165 rfl rfl rfl rfl rfl rfl) ?_
  refine r_nil ?_
  refine x_end ?_
  exact x_r0 rfl le_ ⟨_,rfl,rfl,rfl,rfl⟩
 ·refine r_u (o_bin rfl rfl (bP_eqp Tryz.underlying165)) ?_
  refine r_nil ?_
  refine x_seq ?_
  refine c_ff rfl ?_
  refine c_seq ?_
  refine c_reg ?_
  refine r_u (o_mv rfl) ?_
  refine r_u (o_nc rfl) ?_
  refine r_u (o_fa fa167_0 rfl) ?_
  refine r_u (o_ld 0 sc165 rfl rfl rfl) ?_
  refine r_u (o_mv rfl) ?_
  refine r_u (o_bin rfl rfl (bP_same Tryz.underlying165 hj)) ?_
  refine r_nil ?_
  refine x_seq ?_
  refine c_ff rfl ?_
  refine c_skip ?_
  refine x_end ?_
  exact x_r0 rfl le_ ⟨_,rfl,rfl,rfl,rfl⟩
theorem bld_WriteByte.ok{G R F}(b:Nat)(s:Str)(c:UInt8)(r:Str)(hm:apd 1 s [c]=some r):CO Tryz.prog 88 [pt b 0,vY c] G R (Bld 167 5 b s::F)
  (Ret fun u R' L'=>u = .nilIface∧R'=R∧L'=Bld 167 5 b r::F):=by
 refine co_ofN (N:=17) Tryz.func88 rfl rfl ?_
 refine bld_open_cd fun p v hp hv => ?_
 refine c_seq ?_
 refine c_reg ?_
 refine r_u (o_as rfl) ?_
 refine r_nil ?_
 refine x_seq ?_
 refine c_seq ?_
 refine c_reg ?_
 refine r_u (o_mv rfl) ?_
 refine r_c (s_w (o_call ca144 rfl (bld_copyCheck.ok b p v hp))) ?_
 refine r_nil ?_
 refine x_seq ?_
 refine c_seq ?_
 refine c_reg ?_
 refine r_u (o_mv rfl) ?_
 refine r_u (o_mv rfl) ?_
 refine r_u (o_nc rfl) ?_
 refine r_u (o_fa fa167_1 rfl) ?_
 refine r_u (o_ld 0 sc131 rfl rfl rfl) ?_
 refine r_u (o_mv rfl) ?_
 refine r_sw (s_w (o_bsl (en:=eY) (sz:=1) (e:=5) (cs:=[vY c]) (r:=[c]) rfl (fun _=>by kernel_rfl) rfl (by decide) rfl (fun _=>rfl))) ?_
 rintro v2 _ _ _ ⟨rfl,rfl⟩
 refine rl_st (pk 3 [2,0,1]) ?_
 refine r_sw (s_w (o_ap (sz:=1) (bytes:=1) 0 Tryz.underlying131 rfl rfl rfl rfl rfl (by decide) (by decide) (fun _ _ _ h=>by simp at h;subst h;rfl) (fun _=>rfl) rfl rfl rfl rfl (Nat.succ_pos _) hm)) ?_
 rintro v3 _ _ _ ⟨rfl,rfl⟩
 refine r_u (o_nc rfl) ?_
 refine r_u (o_fa fa167_1 rfl) ?_
 refine rl_st (pk 3 [2,0]) ?_
 refine r_u0 (o_stS 1 sc131 rfl rfl rfl rfl rfl rfl) ?_
 refine r_nil ?_
 refine x_seq ?_
 refine c_seq ?_
 refine c_reg ?_
 refine r_u (o_as rfl) ?_
 refine r_nil ?_
 refine x_seq ?_
 refine c_ret ?_
 refine ex_st (fun _ h=>bld_close (.inr rfl) (fun e=>by unfold apd at hm;split at hm <;> simp_all) h) ?_
 exact x_r1 rfl (rv_t rfl) le_ ⟨_,rfl,rfl,rfl,rfl⟩
theorem bld_String.ok{G R F}(b:Nat)(s:Str):CO Tryz.prog 89 [pt b 0] G R (Bld 167 5 b s::F)
  (Ret fun u R' L'=>u=vS s∧R'=R∧L'=F):=by
 refine co_ofN (N:=14) Tryz.func89 rfl rfl ?_
 refine bld_open_cd fun p v hp hv => ?_
 refine c_seq ?_
 refine c_reg ?_
 refine r_u (o_as rfl) ?_
 refine r_nil ?_
 refine x_seq ?_
 refine c_seq ?_
 by_cases hs:s=[]
 ·obtain rfl:=hv hs
  subst hs
  refine c_any mixed (effs:=[]) (V:=[]) ?_
  refine stage_ext [(0,pt b 0),(1,pt b 0),(2,pt b 1),(3,.slice none 0 0),(4,nl),(5,pt b 0),(6,pt b 0),(7,pt b 1),(8,.slice none 0 0),(9,vI 0),(10,vS []),(11,vS [])] rfl ?_
  refine stage rfl rfl rfl rfl [0,1,3,7,15,0,32,96,224,480,1023,2047] [0,1,2,3,4,5,6,7,8,9,10,11] [] rfl rfl rfl (qc rfl rfl (s_u (o_mv rfl)) (qc rfl rfl (s_u (o_nc rfl)) (qc rfl rfl (s_u (o_fa fa167_1 rfl)) (qc rfl rfl (s_u (o_ld 0 sc131 rfl rfl rfl)) (qc rfl rfl (s_u (o_sdn rfl)) (qc rfl rfl (s_u (o_mv rfl)) (qc rfl rfl (s_u (o_nc rfl)) (qc rfl rfl (s_u (o_fa fa167_1 rfl)) (qc rfl rfl (s_u (o_ld 0 sc131 rfl rfl rfl)) (qc rfl rfl (s_u (o_lenN Tryz.underlying131 rfl)) (qc rfl rfl (s_u (o_usn rfl rfl)) (qc rfl rfl (s_u (o_as rfl)) qn)))))))))))) en ?_
  intro _
  refine ex_sub (E':=[(2,vS [])]) ⟨rfl,trivial⟩ ?_
  refine x_seq ?_
  refine c_ret ?_
  refine ex_st (pk 2 []) ?_
  exact x_r1 rfl (rv_t rfl) le_ ⟨_,rfl,rfl,rfl,rfl⟩
 ·refine c_any mixed (effs:=[10]) (V:=[]) ?_
  refine stage_ext [(0,pt b 0),(1,pt b 0),(2,pt b 1),(3,v),(4,pt (sb v) 0),(5,pt b 0),(6,pt b 0),(7,pt b 1),(8,v),(9,vI s.length)] rfl ?_
  refine stage_st (pk 2 [1,0]) ?_
  refine stage rfl rfl rfl rfl [0,1,3,7,15,0,32,96,224,480,1023,2047] [0,1,2,3,4,5,6,7,8,9] [10] rfl rfl rfl (qc rfl rfl (s_u (o_mv rfl)) (qc rfl rfl (s_u (o_nc rfl)) (qc rfl rfl (s_u (o_fa fa167_1 rfl)) (qc rfl rfl (s_u (o_ld 1 sc131 rfl rfl rfl)) (qc rfl rfl (s_u (o_sd 0 rfl rfl hs)) (qc rfl rfl (s_u (o_mv rfl)) (qc rfl rfl (s_u (o_nc rfl)) (qc rfl rfl (s_u (o_fa fa167_1 rfl)) (qc rfl rfl (s_u (o_ld 1 sc131 rfl rfl rfl)) (qc rfl rfl (s_u (o_lenO 0 Tryz.underlying131 rfl rfl)) qn)))))))))) ?_ (fun h=>absurd h (by decide))
  refine ec (eo_u rfl (s_u (o_us Tryz.underlying222 (by kernel_rfl) rfl rfl rfl hs)) le_ ?_) en
  refine stage_ext [(11,vS s)] rfl ?_
  refine stage rfl rfl rfl rfl [0,1,3,7,15,0,32,96,224,480,1023,2047] [11] [] rfl rfl rfl (qc rfl rfl (s_u (o_as rfl)) qn) en ?_
  intro _
  refine ex_sub (E':=[(2,vS s)]) ⟨rfl,trivial⟩ ?_
  refine x_seq ?_
  refine c_ret ?_
  refine ex_st (pk 1 []) ?_
  exact x_r1 rfl (rv_t rfl) le_ ⟨_,rfl,rfl,rfl,rfl⟩
theorem catch_pan{G:World}{R:PH}{L:List HP}{b:Nat}{n x:Int}{w:World}(hs:St G R (Blk b (.cells (List.toArray [vI x]) 39 (0,0))::L) w):
  CallsD Tryz.prog 100 #[pt b 0] (.panicking (pch 175 n)) w fun e u' w'=>(∃v,e = .returned v)∧u' = .panicking [{ v := .iface 175 (.agg #[vI n]),recovered:=true }]∧St G R (Blk b (.cells (List.toArray [vI n]) 39 (0,0))::L) w':=by
 refine callsD_of_wpS Tryz.func100 rfl fun c₀ cs hu => ?_
 apply wpS_seq
 refine wpS_rec (v := .iface 175 (.agg #[vI n])) (cs' := { c₀ with mode := .panicking [{ v := .iface 175 (.agg #[vI n]),recovered:=true }] } :: cs) (by simp [recoverD,hu,pch]) ?_
 refine wpS_cd (N:=12) (E:=[(4,.iface 175 (.agg #[vI n])),(0,pt b 0)]) (C:=fun u R' L'=>u = .tuple #[]∧R'=R∧L'=Blk b (.cells (List.toArray [vI n]) 39 (0,0))::L) ?_ ((Fr.enter [pt b 0] 12).put (by simp) _) hs ?_
 ·refine c_blk ?_
  refine c_seq ?_
  refine c_reg ?_
  refine r_u (o_bin (v:=vB false) rfl rfl (fun _ _ _=>by kernel_rfl)) ?_
  refine r_nil ?_
  refine x_seq ?_
  refine c_ff rfl ?_
  refine c_seq ?_
  refine c_reg ?_
  refine r_u (o_ta (v := .tuple #[.agg #[vI n],.bool true]) rfl (fun _=>by kernel_rfl)) ?_
  refine r_u (o_ext rfl rfl) ?_
  refine r_u (o_ext rfl rfl) ?_
  refine r_nil ?_
  refine x_seq ?_
  refine c_tt rfl ?_
  refine c_seq ?_
  refine c_reg ?_
  refine r_new (o_al ze175) fun b2 => ?_
  refine r_u0 (o_stn ag175 rfl rfl rfl rfl rfl rfl rfl) ?_
  refine r_nil ?_
  refine x_seq ?_
  refine c_reg ?_
  refine r_u (o_fa fa175_0 rfl) ?_
  refine r_u (o_ld 0 sc39 rfl rfl rfl) ?_
  refine rl_st (pk 2 [1,0]) ?_
  refine r_u0 (o_st sc39 rfl rfl rfl rfl rfl rfl) ?_
  refine r_nil ?_
  refine x_blk ?_
  refine x_end ?_
  refine ex_st (pk 2 [0]) ?_
  exact x_r0 rfl le_ ⟨_,rfl,rfl,rfl,rfl⟩
 ·rintro v w' R' L' _ ⟨rfl,rfl,rfl⟩ hst
  exact ⟨⟨_,rfl⟩,rfl,hst⟩
theorem catch_no{G:World}{R:PH}{L:List HP}{b:Nat}{w:World}(hs:St G R L w):
  CallsD Tryz.prog 100 #[pt b 0] .returning w fun e u' w'=>(∃v,e = .returned v)∧u' = .returning∧St G R L w':=by
 refine callsD_of_wpS Tryz.func100 rfl fun c₀ cs hu => ?_
 apply wpS_seq
 refine wpS_rec0 (by simp [recoverD,hu]) ?_
 have e0:c₀ = { c₀ with mode := .returning } := by cases c₀;simp_all
 refine wpS_cd (N:=12) (E:=[(4,.nilIface),(0,pt b 0)]) (C:=fun u R' L'=>u = .tuple #[]∧R'=R∧L'=L) (u1 := .returning) ?_ ((Fr.enter [pt b 0] 12).put (by simp) _) hs ?_ e0
 ·refine c_blk ?_
  refine c_seq ?_
  refine c_reg ?_
  refine r_u (o_binc (r:=vB true) rfl rfl (fun _=>by kernel_rfl)) ?_
  refine r_nil ?_
  refine x_seq ?_
  refine c_tt rfl ?_
  refine c_reg ?_
  refine r_u (o_as rfl) ?_
  refine r_nil ?_
  refine x_blk ?_
  refine x_end ?_
  exact x_r0 rfl le_ ⟨_,rfl,rfl,rfl,rfl⟩
 ·rintro v w' R' L' _ ⟨rfl,rfl,rfl⟩ hst
  exact ⟨⟨_,rfl⟩,rfl,hst⟩
theorem read_leaves{G:World}{R:PH}{M:List HP}{b:Nat}{n:Int}{w:World}{tmps:Array Value}{K:Ending→PH→List HP→Prop}{q:HP}
  (ht:tmps[4]? = some (pt b 0)) (hs:St G R (Blk b (.cells (List.toArray [vI n]) 39 (0,0))::q::M) w) (hK:K (.returned (vI n)) R M) :
  Leaves Tryz.prog Tryz.f59 tmps (Post G R K) [{ target := .fn (.func 100) #[pt b 0],args := #[] }] .returning w:=by
 refine leaves_cons (f:=100) (args := #[pt b 0]) (by simp) (by simp [go_sem]) ?_
 refine (catch_no hs).mono ?_
 rintro e u' w'' ⟨⟨v,rfl⟩,rfl,h⟩
 have hb:=h.blk (i:=0) rfl
 have hc:w''.cell? ⟨b,0,none⟩=some (vI n):=by simp [World.cell?,hb]
 have ht':tmps.getD 4 undef=pt b 0:=by simp [Array.getD_eq_getD_getElem?,ht]
 refine ⟨vI n,?_,R,M,Le.refl _,hK,h.drop.drop⟩
 simp [results,Tryz.results59,ht,ht',go_sem,hc]
theorem read_panics{G:World}{R:PH}{M:List HP}{b:Nat}{x n:Int}{w:World}{tmps:Array Value}{K:Ending→PH→List HP→Prop}{q:HP}
  (ht:tmps[4]? = some (pt b 0)) (hs:St G R (Blk b (.cells (List.toArray [vI x]) 39 (0,0))::q::M) w) (hK:K (.returned (vI n)) R M) :
  Leaves Tryz.prog Tryz.f59 tmps (Post G R K) [{ target := .fn (.func 100) #[pt b 0],args := #[] }] (.panicking (pch 175 n)) w:=by
 refine leaves_cons (f:=100) (args := #[pt b 0]) (by simp) (by simp [go_sem]) ?_
 refine (catch_pan (n:=n) hs).mono ?_
 rintro e u' w'' ⟨⟨v,rfl⟩,rfl,h⟩
 have hb:=h.blk (i:=0) rfl
 have hc:w''.cell? ⟨b,0,none⟩=some (vI n):=by simp [World.cell?,hb]
 have ht':tmps.getD 4 undef=pt b 0:=by simp [Array.getD_eq_getD_getElem?,ht]
 refine ⟨vI n,?_,R,M,Le.refl _,hK,h.drop.drop⟩
 simp [results,Tryz.results59,ht,ht',go_sem,hc]
theorem DH.okL{G:World}{R:PH}{A M:List HP}{F:List HP}{s s':Str}{fc:Nat}{caps:List Value}
  (hc:Ca Tryz.prog fc)
  (h:∀b F,CO Tryz.prog fc (pt b 0::caps) G R (Blk b (.cells (List.toArray [vS s]) 177 (0,0))::(A++F)) (PRet 175 (fun u R' L'=>u = .tuple #[]∧R'=R∧L'=Blk b (.cells (List.toArray [vS s']) 177 (0,0))::(M++F)) fun _ _ _=>False)) :
  CO Tryz.prog 59 [vS s,.func (.func fc) #[] caps.toArray] G R (A++F) (Ret fun u R' L'=>u=vI (if s'==[] then 0 else 5)∧R'=R∧L'=M++F):=by
 intro w hs
 have hmf:∀(fn:Fn) (first cap:Array Value) (w:World),(Instr.makeFunc fn first cap).run Tryz.prog w = .ok (.func fn first cap) w:=fun _ _ _ _=>rfl
 have hst:St G R (Blk (w.heap.size+1) (.cells (List.toArray [vS s]) 177 (0,0))::Blk w.heap.size (.cells (List.toArray [vI 0]) 39 (0,0))::(A++F)) ((w.alloc (.cells #[Value.int .i64 0] 39)).alloc (.cells #[vS s] 177)):=by
  have h1:=hs.alloc (.cells #[Value.int .i64 0] 39)
  have h2:=h1.alloc (.cells #[vS s] 177)
  simpa [vI] using h2
 have hst2:=st_mid hst
 have hcall:=h (w.heap.size+1) _ _ hst2
 unfold vS at *
 go_enter_defers Tryz.func59,Tryz.ntmps59
 go_wp2
 rw [hc]
 simp only [Oper.upon]
 refine hcall.mono ?_
 rintro e w' ⟨R',L',hR,hq | ⟨n,rfl,hn⟩,hst'⟩
 case inr=>exact hn.elim
 obtain ⟨v,rfl,rfl,rfl,rfl⟩:=hq
 have st3:=st_mid' hst'
 have hb0:=st3.blk (i:=0) rfl
 have hb1:=st3.blk (i:=1) rfl
 have hc1:w'.cell? ⟨w.heap.size+1,0,none⟩=some (.string ⟨s'.toArray⟩):=by simp [World.cell?,hb1]
 have hc0:w'.cell? ⟨w.heap.size,0,none⟩=some (.int .i64 0):=by simp [World.cell?,hb0,vI]
 have hf0:w'.frozen? ⟨w.heap.size,0,none⟩=false:=by simp [World.frozen?,hb0]
 by_cases hs':s'=[]
 ·subst hs'
  go_wp2
  exact read_leaves rfl (st3.upd (upd_set hb0)) ⟨_,rfl,rfl,rfl,rfl⟩
 ·have hne:(s'==[])=false:=by simpa using hs'
  have hie:s'.isEmpty=false:=by simpa using hs'
  go_wp2
  all_goals first | exact read_leaves rfl (st3.upd (upd_set hb0)) ⟨_,rfl,by simp,rfl,rfl⟩ | exact read_leaves rfl (st3.upd (upd_set hb0)) ⟨_,rfl,by simp [hne],rfl,rfl⟩ | (exfalso;simp_all;done)
theorem DH.okR{G:World}{R:PH}{A M:List HP}{F:List HP}{s:Str}{cs:List Value}{n0:Int}{fc:Nat}{caps:List Value}
  (hc:Ca Tryz.prog fc)
  (h:∀b F,CO Tryz.prog fc (pt b 0::caps) G R (Blk b (.cells (List.toArray [vS s]) 177 (0,0))::(A++F)) (PRet 175 (fun _ _ _=>False) fun n R' L'=>n=n0∧R'=R∧L'=Blk b (.cells (List.toArray cs) 177 (0,0))::(M++F))) :
  CO Tryz.prog 59 [vS s,.func (.func fc) #[] caps.toArray] G R (A++F) (Ret fun u R' L'=>u=vI n0∧R'=R∧L'=M++F):=by
 intro w hs
 have hmf:∀(fn:Fn) (first cap:Array Value) (w:World),(Instr.makeFunc fn first cap).run Tryz.prog w = .ok (.func fn first cap) w:=fun _ _ _ _=>rfl
 have hst:St G R (Blk (w.heap.size+1) (.cells (List.toArray [vS s]) 177 (0,0))::Blk w.heap.size (.cells (List.toArray [vI 0]) 39 (0,0))::(A++F)) ((w.alloc (.cells #[Value.int .i64 0] 39)).alloc (.cells #[vS s] 177)):=by
  have h1:=hs.alloc (.cells #[Value.int .i64 0] 39)
  have h2:=h1.alloc (.cells #[vS s] 177)
  simpa [vI] using h2
 have hst2:=st_mid hst
 have hcall:=h (w.heap.size+1) _ _ hst2
 unfold vS at *
 go_enter_defers Tryz.func59,Tryz.ntmps59
 go_wp2
 rw [hc]
 simp only [Oper.upon]
 refine hcall.mono ?_
 rintro e w' ⟨R',L',hR,⟨v,rfl,hn⟩ | ⟨n,rfl,rfl,rfl,rfl⟩,hst'⟩
 case inl=>exact hn.elim
 exact read_panics rfl (st_mid' hst') ⟨_,rfl,rfl,rfl,rfl⟩
structure Av where
 Policy:Int
 Entries:Int
 Bytes:Int
 Seed:UInt64
 deriving DecidableEq,Inhabited
def Av.c(x:Av):List _root_.Go.Value:=[vI x.Policy,vI x.Entries,vI x.Bytes,vW x.Seed]
abbrev Av.v(x:Av):_root_.Go.Value := .agg (Av.c x).toArray
structure AH where
 Kind:Int
 Key:Str
 Value:Str
 TTL:UInt64
 Version:UInt64
 deriving DecidableEq,Inhabited
def AH.c(x:AH):List _root_.Go.Value:=[vI x.Kind,vS x.Key,vS x.Value,vW x.TTL,vW x.Version]
abbrev AH.v(x:AH):_root_.Go.Value := .agg (AH.c x).toArray
structure Az where
 Ticks:UInt64
 Session:UInt64
 Num:UInt64
 Op:AH
 Skip:Int
 deriving DecidableEq,Inhabited
def Az.c(x:Az):List _root_.Go.Value:=[vW x.Ticks,vW x.Session,vW x.Num,vI x.Op.Kind,vS x.Op.Key,vS x.Op.Value,vW x.Op.TTL,vW x.Op.Version,vI x.Skip]
abbrev Az.v(x:Az):_root_.Go.Value := .agg (Az.c x).toArray
structure Ak where
 Key:Str
 Value:Str
 Version:UInt64
 End:UInt64
 deriving DecidableEq,Inhabited
def Ak.c(x:Ak):List _root_.Go.Value:=[vS x.Key,vS x.Value,vW x.Version,vW x.End]
abbrev Ak.v(x:Ak):_root_.Go.Value := .agg (Ak.c x).toArray
structure Ah where
 m:List (Str×Ak)
 bytes:Int
 deriving DecidableEq,Inhabited
structure Ah.G where
 m:_root_.Go.Value
instance:Inhabited Ah.G:=⟨⟨nl⟩⟩
def Ah.fl(b:Nat)(x:Ah)(g:Ah.G):List HP:=[Bk b 138 [g.m,vI x.bytes],OwM vS Ak.v g.m x.m]
def Ah.op(g:Ah.G):Nat→Ah→HP:=fun b x=>star (Ah.fl b x g)
structure As where
 key:Str
 list:Int
 prev:Int
 next:Int
 deriving DecidableEq,Inhabited
def As.c(x:As):List _root_.Go.Value:=[vS x.key,vI x.list,vI x.prev,vI x.next]
abbrev As.v(x:As):_root_.Go.Value := .agg (As.c x).toArray
structure Ab where
 lists:Int
 slots:List As
 free:List Int
 at_:List (Str×Int)
 many:List Int
 deriving DecidableEq,Inhabited
structure Ab.G where
 slots:_root_.Go.Value
 free:_root_.Go.Value
 at_:_root_.Go.Value
 many:_root_.Go.Value
instance:Inhabited Ab.G:=⟨⟨nl,nl,nl,nl⟩⟩
def Ab.fl(b:Nat)(x:Ab)(g:Ab.G):List HP:=[Bk b 237 [vI x.lists,g.slots,g.free,g.at_,g.many],OwS true 240 4 As.c g.slots x.slots,OwS true 3 1 eI g.free x.free,OwM vS vI g.at_ x.at_,OwS true 3 1 eI g.many x.many]
def Ab.op(g:Ab.G):Nat→Ab→HP:=fun b x=>star (Ab.fl b x g)
structure Ai where
 most:Int
 target:Int
 r:Option Ab
 deriving DecidableEq,Inhabited
structure Ai.G where
 r:_root_.Go.Value×Ab.G
instance:Inhabited Ai.G:=⟨⟨(nl,default)⟩⟩
def Ai.fl(b:Nat)(x:Ai)(g:Ai.G):List HP:=[Bk b 193 [vI x.most,vI x.target,g.r.1],rO (Ab.op g.r.2) g.r.1 x.r]
def Ai.op(g:Ai.G):Nat→Ai→HP:=fun b x=>star (Ai.fl b x g)
structure Ae where
 wide:Int
 seed:UInt64
 rows:List (List UInt8)
 door:List Bool
 added:Int
 deriving DecidableEq,Inhabited
structure Ae.G where
 rows:_root_.Go.Value×_root_.Go.Value×_root_.Go.Value×_root_.Go.Value
 door:_root_.Go.Value
instance:Inhabited Ae.G:=⟨⟨(nl,nl,nl,nl),nl⟩⟩
def Ae.fl(b:Nat)(x:Ae)(g:Ae.G):List HP:=[Bk b 250 [vI x.wide,vW x.seed,g.rows.1,g.rows.2.1,g.rows.2.2.1,g.rows.2.2.2,g.door,vI x.added],OwL (OwS false 5 1 eY) [g.rows.1,g.rows.2.1,g.rows.2.2.1,g.rows.2.2.2] x.rows,OwS true 4 1 eB g.door x.door]
def Ae.op(g:Ae.G):Nat→Ae→HP:=fun b x=>star (Ae.fl b x g)
structure Af where
 most:Int
 s:Option Ae
 r:Option Ab
 deriving DecidableEq,Inhabited
structure Af.G where
 s:_root_.Go.Value×Ae.G
 r:_root_.Go.Value×Ab.G
instance:Inhabited Af.G:=⟨⟨(nl,default),(nl,default)⟩⟩
def Af.fl(b:Nat)(x:Af)(g:Af.G):List HP:=[Bk b 196 [vI x.most,g.s.1,g.r.1],rO (Ae.op g.s.2) g.s.1 x.s,rO (Ab.op g.r.2) g.r.1 x.r]
def Af.op(g:Af.G):Nat→Af→HP:=fun b x=>star (Af.fl b x g)
structure Ac where
 kind:Int
 a:Option Ai
 t:Option Af
 deriving DecidableEq,Inhabited
structure Ac.G where
 a:_root_.Go.Value×Ai.G
 t:_root_.Go.Value×Af.G
instance:Inhabited Ac.G:=⟨⟨(nl,default),(nl,default)⟩⟩
def Ac.fl(b:Nat)(x:Ac)(g:Ac.G):List HP:=[Bk b 144 [vI x.kind,g.a.1,g.t.1],rO (Ai.op g.a.2) g.a.1 x.a,rO (Af.op g.t.2) g.t.1 x.t]
def Ac.op(g:Ac.G):Nat→Ac→HP:=fun b x=>star (Ac.fl b x g)
structure Ar where
 E:Int
 Value:Str
 Version:UInt64
 deriving DecidableEq,Inhabited
def Ar.c(x:Ar):List _root_.Go.Value:=[vI x.E,vS x.Value,vW x.Version]
abbrev Ar.v(x:Ar):_root_.Go.Value := .agg (Ar.c x).toArray
structure Ap where
 num:UInt64
 reply:Ar
 deriving DecidableEq,Inhabited
def Ap.c(x:Ap):List _root_.Go.Value:=[vW x.num,vI x.reply.E,vS x.reply.Value,vW x.reply.Version]
abbrev Ap.v(x:Ap):_root_.Go.Value := .agg (Ap.c x).toArray
structure BJ where
 Asked:Int
 Hits:Int
 deriving DecidableEq,Inhabited
def BJ.c(x:BJ):List _root_.Go.Value:=[vI x.Asked,vI x.Hits]
abbrev BJ.v(x:BJ):_root_.Go.Value := .agg (BJ.c x).toArray
structure Ad where
 c:Av
 t:Option Ah
 p:Option Ac
 sessions:List (UInt64×Ap)
 seq:UInt64
 now:UInt64
 version:UInt64
 tally:BJ
 deriving DecidableEq,Inhabited
structure Ad.G where
 t:_root_.Go.Value×Ah.G
 p:_root_.Go.Value×Ac.G
 sessions:_root_.Go.Value
instance:Inhabited Ad.G:=⟨⟨(nl,default),(nl,default),nl⟩⟩
def Ad.fl(b:Nat)(x:Ad)(g:Ad.G):List HP:=[Bk b 96 [vI x.c.Policy,vI x.c.Entries,vI x.c.Bytes,vW x.c.Seed,g.t.1,g.p.1,g.sessions,vW x.seq,vW x.now,vW x.version,vI x.tally.Asked,vI x.tally.Hits],rO (Ah.op g.t.2) g.t.1 x.t,rO (Ac.op g.p.2) g.p.1 x.p,OwM vW Ap.v g.sessions x.sessions]
def Ad.op(g:Ad.G):Nat→Ad→HP:=fun b x=>star (Ad.fl b x g)
structure AM where
 Seq:UInt64
 Now:UInt64
 Session:UInt64
 Num:UInt64
 Op:AH
 deriving DecidableEq,Inhabited
def AM.c(x:AM):List _root_.Go.Value:=[vW x.Seq,vW x.Now,vW x.Session,vW x.Num,vI x.Op.Kind,vS x.Op.Key,vS x.Op.Value,vW x.Op.TTL,vW x.Op.Version]
abbrev AM.v(x:AM):_root_.Go.Value := .agg (AM.c x).toArray
structure Dk where
 Window:Int
 Protected:Int
 deriving DecidableEq,Inhabited
def Dk.c(x:Dk):List _root_.Go.Value:=[vI x.Window,vI x.Protected]
abbrev Dk.v(x:Dk):_root_.Go.Value := .agg (Dk.c x).toArray
structure Aa where
 s:Str
 deriving DecidableEq,Inhabited
def Aa.c(x:Aa):List _root_.Go.Value:=[vS x.s]
abbrev Aa.v(x:Aa):_root_.Go.Value := .agg (Aa.c x).toArray
structure DE where
 e:Int
 deriving DecidableEq,Inhabited
def DE.c(x:DE):List _root_.Go.Value:=[vI x.e]
abbrev DE.v(x:DE):_root_.Go.Value := .agg (DE.c x).toArray
structure Ay where
 L:List (List Str)
 Places:Int
 deriving DecidableEq,Inhabited
structure Ay.G where
 L:_root_.Go.Value×List _root_.Go.Value
instance:Inhabited Ay.G:=⟨⟨(nl,[])⟩⟩
def Ay.fl(b:Nat)(x:Ay)(g:Ay.G):List HP:=[Bk b 64 [g.L.1,vI x.Places],OwS true 98 1 eV g.L.1 g.L.2,OwL (OwS true 9 1 eS) g.L.2 x.L]
def Ay.op(g:Ay.G):Nat→Ay→HP:=fun b x=>star (Ay.fl b x g)
def Ay.ro(R:PH)(x:Ay)(g:Ay.G):Prop:=RoN R g.L.1 1 (fun x=>[vS x]) x.L
structure Ax where
 Most:Int
 Target:Int
 R:Ay
 deriving DecidableEq,Inhabited
structure Ax.G where
 R:Ay.G
instance:Inhabited Ax.G:=⟨⟨default⟩⟩
def Ax.fl(b:Nat)(x:Ax)(g:Ax.G):List HP:=[Bk b 66 [vI x.Most,vI x.Target,g.R.L.1,vI x.R.Places],OwS true 98 1 eV g.R.L.1 g.R.L.2,OwL (OwS true 9 1 eS) g.R.L.2 x.R.L]
def Ax.op(g:Ax.G):Nat→Ax→HP:=fun b x=>star (Ax.fl b x g)
def Ax.ro(R:PH)(x:Ax)(g:Ax.G):Prop:=Ay.ro R x.R g.R
theorem AH.eqt27(d:Nat)(a b:AH):EqT Tryz.prog (d+1) 27 (.agg (AH.c a).toArray) (.agg (AH.c b).toArray) (decide (a=b)) :=
 EqT.st Tryz.underlying27 Tryz.stoodInHeld27 (EqF.cons (a:=vI a.Kind) (b:=vI b.Kind) (fun _=>by kernel_rfl) (fun _=>by kernel_rfl) rfl (EqT.I _ Tryz.underlying3 _ _) <| EqF.cons (a:=vS a.Key) (b:=vS b.Key) (fun _=>by kernel_rfl) (fun _=>by kernel_rfl) rfl (EqT.S _ Tryz.underlying9 _ _) <| EqF.cons (a:=vS a.Value) (b:=vS b.Value) (fun _=>by kernel_rfl) (fun _=>by kernel_rfl) rfl (EqT.S _ Tryz.underlying9 _ _) <| EqF.cons (a:=vW a.TTL) (b:=vW b.TTL) (fun _=>by kernel_rfl) (fun _=>by kernel_rfl) rfl (EqT.W _ Tryz.underlying22 _ _) <| EqF.cons (a:=vW a.Version) (b:=vW b.Version) (fun _=>by kernel_rfl) (fun _=>by kernel_rfl) rfl (EqT.W _ Tryz.underlying22 _ _) <| EqF.nil) (by cases a;cases b;rw [Bool.eq_iff_iff];simp)
theorem AH.beq_27(a b:AH):Bop Tryz.prog .eql 27 (.agg (AH.c a).toArray) (.agg (AH.c b).toArray) (vB (decide (a=b))):=EqT.bop Tryz.eqGuardType27 (AH.eqt27 9998 a b)
theorem AH.bne_27(a b:AH):Bop Tryz.prog .neq 27 (.agg (AH.c a).toArray) (.agg (AH.c b).toArray) (vB (!decide (a=b))):=EqT.bon Tryz.eqGuardType27 (AH.eqt27 9998 a b)
theorem Ar.eqt41(d:Nat)(a b:Ar):EqT Tryz.prog (d+1) 41 (.agg (Ar.c a).toArray) (.agg (Ar.c b).toArray) (decide (a=b)) :=
 EqT.st Tryz.underlying41 Tryz.stoodInHeld41 (EqF.cons (a:=vI a.E) (b:=vI b.E) (fun _=>by kernel_rfl) (fun _=>by kernel_rfl) rfl (EqT.I _ Tryz.underlying39 _ _) <| EqF.cons (a:=vS a.Value) (b:=vS b.Value) (fun _=>by kernel_rfl) (fun _=>by kernel_rfl) rfl (EqT.S _ Tryz.underlying9 _ _) <| EqF.cons (a:=vW a.Version) (b:=vW b.Version) (fun _=>by kernel_rfl) (fun _=>by kernel_rfl) rfl (EqT.W _ Tryz.underlying22 _ _) <| EqF.nil) (by cases a;cases b;rw [Bool.eq_iff_iff];simp)
theorem Ar.beq_41(a b:Ar):Bop Tryz.prog .eql 41 (.agg (Ar.c a).toArray) (.agg (Ar.c b).toArray) (vB (decide (a=b))):=EqT.bop Tryz.eqGuardType41 (Ar.eqt41 9998 a b)
theorem Ar.bne_41(a b:Ar):Bop Tryz.prog .neq 41 (.agg (Ar.c a).toArray) (.agg (Ar.c b).toArray) (vB (!decide (a=b))):=EqT.bon Tryz.eqGuardType41 (Ar.eqt41 9998 a b)
def mk0_:List Nat:=[0,0,0,0,12,28,1,65,255,511]
def mk1_:List Nat:=[0,0,0,0,15,31,0,63,255]
def mk2_:List Nat:=[0,0,0,0,4,28,60,0,0,128,896,1920,4092,8188,1,32767,65535]
def mk3_:List Nat:=[0,0,0,0,8,0,0,64,224,480,0,0,3072,7168,16355,32739,65535,131071]
def mk4_:List Nat:=[0,0,0,4,0,0,48,112,255,511,1023]
def mk5_:List Nat:=[0,0,0,4,1,17,63,127]
def mk6_:List Nat:=[0,0,0,4,12,28,60,124,254,510,1022,2046,1022,5118,16382,1022,33790,99326,230398,524286,1048574,2097150,4194302,8388606,4194302,20971518,67108862,4194302,138412030,406847486,943718398,2147483646,4294967294,8589934590,17179869182,17179869182,51539607550,120259084286,257698037758,532575944702,1099511627774,17179869182,2216203124734,6614249635838,15410342658046,33002528702462,70368744177662,140737488355326,281474976710654,562949953421310,1125899906842622,2251799813685246,4503599627370494,9007199254740990,18014398509481982,36028797018963966,72057594037927935]
def mk7_:List Nat:=[0,0,1,7,15,0,0,32,224,480,0,2016,4095,1,16383,32767]
def mk8_:List Nat:=[0,0,1,7,15,0,0,32,224,480,1023,1,4095,8191]
def mk9_:List Nat:=[0,0,2,6,14,0,0,96,224,510,1022,2047,4095,8191]
def mk10_:List Nat:=[0,0,2,6,14,0,32,126,255,511,1023]
def mk11_:List Nat:=[0,0,2,6,14,0,32,96,224,0,0,1536,3584,8160,16382,32767,65535,131071]
def mk12_:List Nat:=[0,0,2,6,14,0,62,126,254,510,1022,2046,4094,8190,16382,32766,65534,131070,262142,131070,655358,1703934,3801086,8388606,16777214,33554430,67108862,134217726,268435454,536870910,1073741822,2147483646,1073741822,5368709118,13958643710,31138512894,68719476734,137438953470,274877906942,549755813887]
def mk13_:List Nat:=[0,0,2,6,14,0,62,126,254,510,1023,2047]
def mk14_:List Nat:=[0,0,2,6,14,30,0,64,192,448,1022,2046,4095]
def mk15_:List Nat:=[0,0,2,6,14,30,0,64,192,448,960,2046,4094,8190,16382,32766,65534,131070,8190,270334,794622,1843198,4194302,8388606,16777214,33554430,67108862,134217726,268435454,536870910,1073741822,67108862,2214592510,6509559806,15099494398,32279363582,68719476734,137438953470,274877906942,549755813886,1099511627774,2199023255550,4398046511102,8796093022206,549755813886,18141941858302,53326313947134,123695058124798,264432546480126,562949953421310,1125899906842622,2251799813685247]
def mk16_:List Nat:=[0,0,2,6,14,30,0,64,192,448,960,2046,4095]
def mk17_:List Nat:=[0,0,2,6,14,30,62,126,254,510,1022,2046,4094,254,16382,32766,254,65790,196862,459006,983294,2097150,4194302,8388606,16777214,33554430,16777214,83886078,218103806,486539262,1073741822,2147483646,4294967294,8589934590,17179869182,34359738366,68719476734,137438953470,8589934590,283467841534,1099511627774,2199023255550,4398046511102,8796093022206,17592186044414,35184372088830,70368744177662,140737488355326,8796093022206,290271069732862,1125899906842622,2251799813685246,4503599627370495]
def mk18_:List Nat:=[0,0,2,6,14,31,63,127,255,511,1023,2047,127,4223,12415,28799,65535,131071,262143]
def mk19_:List Nat:=[0,0,2,6,14,31,63,127]
def mk20_:List Nat:=[0,0,3,7,15,15,63,127,15,15,527,1807,3855,8191,16383]
def mk21_:List Nat:=[0,1,0,0,0,24,56,127,255,511,511,0,3071,8191]
def mk22_:List Nat:=[0,1,0,4,0,16,48,112,255,0,1023]
def mk23_:List Nat:=[0,1,3,0,8,24,0,64,192,448,1016,2047,4095,8191]
def mk24_:List Nat:=[0,1,3,7,0,0,32,0,224,480,1023]
def mk25_:List Nat:=[0,1,3,7,0,0,32,127,255]
def mk26_:List Nat:=[0,1,3,7,0,16,0,127]
def mk27_:List Nat:=[0,1,3,7,0,16,0,64,0,448,1023]
def mk28_:List Nat:=[0,1,3,7,0,16,0,64,192,448,960,2032,4095,8191,16383]
def mk29_:List Nat:=[0,1,3,7,0,16,48,112,0,256,768,1792,0,0,0,12287,45055,110591,262143,524287,1048575]
def mk30_:List Nat:=[0,1,3,7,0,16,48,112,0,256,768,1792,0,4096,12288,28672,0,65536,196608,458752,0,1048576,3145728,7340032,16777215,33554431,67108863,134217727,268435455,536870911]
def mk31_:List Nat:=[0,1,3,7,0,16,48,112,255,511,0]
def mk32_:List Nat:=[0,1,3,7,0,16,48,112,255,511,1023,2047,4095]
def mk33_:List Nat:=[0,1,3,7,0,16,63,127,0]
def mk34_:List Nat:=[0,1,3,7,0,16,63,127,255,255,0,1535,4095]
def mk35_:List Nat:=[0,1,3,7,0,16,63,127,255,511]
def mk36_:List Nat:=[0,1,3,7,15,0,32,96,224,511,1023,2047]
def mk37_:List Nat:=[0,1,3,7,15,31,0,64,192,448,960,0,2048,6144,14336,32704,65472,131071,262143,0,1048575]
def mk38_:List Nat:=[0,1,3,7,15,31,3,127,3,259,771,1795,3,8191,16383,32767]
abbrev Ad.k(x:Ad)(g:Ad.G):List Value:=[vI x.c.Policy,vI x.c.Entries,vI x.c.Bytes,vW x.c.Seed,g.t.1,g.p.1,g.sessions,vW x.seq,vW x.now,vW x.version,vI x.tally.Asked,vI x.tally.Hits]
abbrev Ae.k(x:Ae)(g:Ae.G):List Value:=[vI x.wide,vW x.seed,g.rows.1,g.rows.2.1,g.rows.2.2.1,g.rows.2.2.2,g.door,vI x.added]
abbrev Ab.k(x:Ab)(g:Ab.G):List Value:=[vI x.lists,g.slots,g.free,g.at_,g.many]
def DC(a0:UInt64):Option Int :=
 Option.bind (if decide (4294967296≤a0) then some (shWr a0 ((32:UInt64).toNat:Int),32) else some (a0,0)) fun p0=>Option.bind (if decide (65536≤p0.1) then some (shWr p0.1 ((16:UInt64).toNat:Int),i64 (p0.2+16)) else some (p0.1,p0.2)) fun p4=>Option.bind (if decide (256≤p4.1) then some (shWr p4.1 ((8:UInt64).toNat:Int),i64 (p4.2+8)) else some (p4.1,p4.2)) fun p8=>(gi ([0,1,2,2,3,3,3,3,4,4,4,4,4,4,4,4,5,5,5,5,5,5,5,5,5,5,5,5,5,5,5,5,6,6,6,6,6,6,6,6,6,6,6,6,6,6,6,6,6,6,6,6,6,6,6,6,6,6,6,6,6,6,6,6,7,7,7,7,7,7,7,7,7,7,7,7,7,7,7,7,7,7,7,7,7,7,7,7,7,7,7,7,7,7,7,7,7,7,7,7,7,7,7,7,7,7,7,7,7,7,7,7,7,7,7,7,7,7,7,7,7,7,7,7,7,7,7,7,8,8,8,8,8,8,8,8,8,8,8,8,8,8,8,8,8,8,8,8,8,8,8,8,8,8,8,8,8,8,8,8,8,8,8,8,8,8,8,8,8,8,8,8,8,8,8,8,8,8,8,8,8,8,8,8,8,8,8,8,8,8,8,8,8,8,8,8,8,8,8,8,8,8,8,8,8,8,8,8,8,8,8,8,8,8,8,8,8,8,8,8,8,8,8,8,8,8,8,8,8,8,8,8,8,8,8,8,8,8,8,8,8,8,8,8,8,8,8,8,8,8,8,8,8,8,8,8]:Str) (p8.1.toUInt8.toNat:Int)).bind fun c12=>some (i64 (p8.2+(c12.toNat:Int)))
theorem DC.ok{G R F}(a0:UInt64)(r:Int)(hm:DC a0=some r):CO Tryz.prog 200 [vW a0] G R (F)
  (Ret fun u R' L'=>u=vI r∧R'=R∧L'=F):=by
 unfold DC at hm
 refine co_ofN (N:=25) Tryz.func200 z z ?_
 refine csr ?_
 refine r_as z ?_
 refine nssr ?_
 refine r_mv z (r_bin z z (bW_ge a0 4294967296) ?_)
 refine nsq ?_
 obtain ⟨p0,hp1,hm2⟩:=bs hm
 refine cd_join (E':=[(0,vW p0.1),(2,vI p0.2)]) (L':=F) ?_ fun K3 => ?_
 rotate_left
 ·refine c_if (b:=decide (4294967296≤a0)) z (fun h18 => ?_) fun h18 => ?_
  ·have hm19:=ift hp1 h18
   refine csr ?_
   refine r_mv z (r_bin z z (bWW_shr a0 32) (r_as z ?_))
   refine r_nil (x_seq (c_reg ?_))
   refine r_as z ?_
   refine r_nil ?_
   obtain rfl:=si hm19
   exact x_sub K3 ⟨z,z,trivial⟩ (pk 0 [])
  have hm19:=iff_ hp1 h18
  refine c_skip ?_
  obtain rfl:=si hm19
  exact x_sub K3 ⟨z,z,trivial⟩ (pk 0 [])
 refine x_seq (c_seq (csr ?_))
 refine r_mv z (r_bin z z (bW_ge _ 65536) ?_)
 refine nsq ?_
 obtain ⟨p4,hp5,hm6⟩:=bs hm2
 refine cd_join (E':=[(0,vW p4.1),(2,vI p4.2)]) (L':=F) ?_ fun K7 => ?_
 rotate_left
 ·refine c_if (b:=decide (65536≤p0.1)) z (fun h16 => ?_) fun h16 => ?_
  ·have hm17:=ift hp5 h16
   refine csr ?_
   refine r_mv z (r_bin z z (bWW_shr p0.1 16) (r_as z ?_))
   refine r_nil (x_seq (c_reg ?_))
   refine r_mv z (r_bin z z (bI_add _ 16) (r_as z ?_))
   refine r_nil ?_
   obtain rfl:=si hm17
   exact x_sub K7 ⟨z,z,trivial⟩ (pk 0 [])
  have hm17:=iff_ hp5 h16
  refine c_skip ?_
  obtain rfl:=si hm17
  exact x_sub K7 ⟨z,z,trivial⟩ (pk 0 [])
 refine x_seq (c_seq (csr ?_))
 refine r_mv z (r_bin z z (bW_ge _ 256) ?_)
 refine nsq ?_
 obtain ⟨p8,hp9,hm10⟩:=bs hm6
 refine cd_join (E':=[(0,vW p8.1),(2,vI p8.2)]) (L':=F) ?_ fun K11 => ?_
 ·refine x_seq (csr ?_)
  refine r_mv z (r_mv z (r_u (o_cv z (cWY Tryz.underlying22 Tryz.underlying5 p8.1)) ?_))
  obtain ⟨c12,hc12,hm13⟩:=bs hm10
  refine r_u (o_ixSY Tryz.underlying9 z z hc12) (r_u (o_cv z (cYI Tryz.underlying5 Tryz.underlying3 c12)) (r_bin z z (bI_add _ _) (r_as z ?_)))
  refine r_nil (x_seq (c_ret ?_))
  obtain rfl:=si hm13
  exact x_r1 z (rv_t z) le_ ⟨_,z,z,z,z⟩
 refine c_if (b:=decide (256≤p4.1)) z (fun h14 => ?_) fun h14 => ?_
 ·have hm15:=ift hp9 h14
  refine csr ?_
  refine r_mv z (r_bin z z (bWW_shr p4.1 8) (r_as z ?_))
  refine r_nil (x_seq (c_reg ?_))
  refine r_mv z (r_bin z z (bI_add _ 8) (r_as z ?_))
  refine r_nil ?_
  obtain rfl:=si hm15
  exact x_sub K11 ⟨z,z,trivial⟩ (pk 0 [])
 have hm15:=iff_ hp9 h14
 refine c_skip ?_
 obtain rfl:=si hm15
 exact x_sub K11 ⟨z,z,trivial⟩ (pk 0 [])
def DA(a0:UInt64):Option Int :=
 (DC a0).bind fun r0=>some r0
theorem DA.ok{G R F}(a0:UInt64)(r:Int)(hm:DA a0=some r):CO Tryz.prog 149 [vW a0] G R (F)
  (Ret fun u R' L'=>u=vI r∧R'=R∧L'=F):=by
 unfold DA at hm
 refine co_ofN (N:=8) Tryz.func149 z z ?_
 refine csr ?_
 refine r_as z ?_
 refine r_nil (x_seq (c_seq ?_))
 refine c_ff z ?_
 refine c_skip (x_seq (csr ?_))
 refine r_mv z ?_
 obtain ⟨r0,hr0,hm1⟩:=bs hm
 refine r_u (o_callq ca200 z (DC.ok a0 _ hr0)) (r_as z ?_)
 refine r_nil (x_seq (c_ret ?_))
 obtain rfl:=si hm1
 exact x_r1 z (rv_t z) le_ ⟨_,z,z,z,z⟩
def cmp_isNaN_uint64(a0:UInt64):Bool :=
 (a0 != a0)
theorem cmp_isNaN_uint64.ok{G R F}(a0:UInt64)(r:Bool)(hm:cmp_isNaN_uint64 a0=r):CO Tryz.prog 237 [vW a0] G R (F)
  (Ret fun u R' L'=>u=vB r∧R'=R∧L'=F):=by
 unfold cmp_isNaN_uint64 at hm
 refine co_ofN (N:=6) Tryz.func237 z z ?_
 refine csr ?_
 refine r_as z ?_
 refine nsr ?_
 refine r_mv z (r_mv z (r_bin z z (bW_ne a0 a0) (r_as z ?_)))
 refine r_nil (x_seq (c_ret ?_))
 subst hm
 exact x_r1 z (rv_t z) le_ ⟨_,z,z,z,z⟩
def cmp_Less_uint64(a0:UInt64)(a1:UInt64):Bool :=
 (((cmp_isNaN_uint64 a0) && !(cmp_isNaN_uint64 a1))||decide (a0<a1))
theorem cmp_Less_uint64.ok{G R F}(a0:UInt64)(a1:UInt64)(r:Bool)(hm:cmp_Less_uint64 a0 a1=r):CO Tryz.prog 196 [vW a0,vW a1] G R (F)
  (Ret fun u R' L'=>u=vB r∧R'=R∧L'=F):=by
 unfold cmp_Less_uint64 at hm
 refine co_ofN (N:=17) Tryz.func196 z z ?_
 refine csr ?_
 refine r_as z ?_
 refine nsr ?_
 refine r_mv z ?_
 refine r_u (o_callq ca237 z (cmp_isNaN_uint64.ok a0 _ z)) (r_mv z ?_)
 refine r_s (s_gt z z fun g=>o_mv z) ?_
 refine r_s (s_gt z z fun g=>o_callq ca237 (evs1 (evg z g) evs0) (cmp_isNaN_uint64.ok a1 _ z)) ?_
 refine r_s (s_gt z z fun g=>o_not (evg z g)) ?_
 refine r_u (o_and z z) (r_mv z ?_)
 refine r_s (s_gf z z fun g=>o_mv z) ?_
 refine r_s (s_gf z z fun g=>o_mv z) ?_
 refine r_s (s_gf z z fun g=>o_bin (evg z g) (evg z g) (bW_lt a0 a1)) ?_
 refine r_u (o_or z z) (r_as z ?_)
 refine r_nil (x_seq (c_ret ?_))
 subst hm
 exact x_r1 z (rv_t z) le_ ⟨_,z,z,z,z⟩
def slices_insertionSortOrdered_uint64_o0_l1(a1:Int):Nat→Int→(List UInt64)→Option (List UInt64)
 | 0,_,_=>none
 | k21+1,j_19,c_20=>Option.bind (if decide (a1<j_19) then (gi c_20 j_19).bind fun x38=>(gi c_20 (i64 (j_19-1))).bind fun x40=>some (cmp_Less_uint64 x38 x40) else some false) fun p24=>if p24 then (gi c_20 (i64 (j_19-1))).bind fun x30=>(gi c_20 j_19).bind fun x32=>(gi (ls c_20 j_19 x30) (i64 (j_19-1))).bind fun x34=>slices_insertionSortOrdered_uint64_o0_l1 a1 k21 (i64 (j_19-1)) (ls (ls c_20 j_19 x30) (i64 (j_19-1)) x32) else some c_20
def slices_insertionSortOrdered_uint64_o0_l0(a1:Int)(a2:Int):Nat→Int→(List UInt64)→Option (List UInt64)
 | 0,_,_=>none
 | k6+1,i_4,c_5=>if decide (i_4<a2) then Option.bind (Option.bind (slices_insertionSortOrdered_uint64_o0_l1 a1 1100 i_4 c_5) fun p15=>some p15) fun p11=>slices_insertionSortOrdered_uint64_o0_l0 a1 a2 k6 (i64 (i_4+1)) p11 else some c_5
def slices_insertionSortOrdered_uint64_o0(a0:List UInt64)(a1:Int)(a2:Int):Option (List UInt64) :=
 Option.bind (slices_insertionSortOrdered_uint64_o0_l0 a1 a2 ((a2-i64 (a1+1)).toNat+1) (i64 (a1+1)) a0) fun p0=>some p0
theorem slices_insertionSortOrdered_uint64_o0.ok{G R F}(v0_:Value)(a0:List UInt64)(a1:Int)(a2:Int)(r:List UInt64)(hm:slices_insertionSortOrdered_uint64_o0 a0 a1 a2=some r):CO Tryz.prog 190 [v0_,vI a1,vI a2] G R (OwS true 22 1 eW v0_ a0::F)
  (Ret fun u R' L'=>u = .tuple #[]∧R'=R∧L'=OwS true 22 1 eW v0_ r::F):=by
 unfold slices_insertionSortOrdered_uint64_o0 at hm
 refine co_ofN (N:=49) Tryz.func190 z z ?_
 refine csr ?_
 refine r_mv z (r_bin z z (bI_add a1 1) (r_as z ?_))
 refine nsq ?_
 obtain ⟨p0,hp1,hm2⟩:=bs hm
 refine cd_join (E':=[]) (L':=OwS true 22 1 eW v0_ p0::F) ?_ fun K3 => ?_
 ·refine x_end ?_
  obtain rfl:=si hm2
  exact x_r0 z le_ ⟨_,z,z,z,z⟩
 refine c_blk ?_
 refine cd_loop (M:=fun k6 (s:Int×List UInt64)=>slices_insertionSortOrdered_uint64_o0_l0 a1 a2 k6 s.1 s.2=some p0) (Ef:=fun (s:Int×List UInt64)=>[(0,v0_),(1,vI a1),(2,vI a2),(6,vI s.1)]) (Lf:=fun (s:Int×List UInt64)=>OwS true 22 1 eW v0_ s.2::F) ((a2-i64 (a1+1)).toNat+1) (i64 (a1+1),a0) hp1 ⟨z,z,z,z,trivial⟩ (fun _ h=>h) (fun _ h=>by cases h) fun k6 s hM8 => ?_
 obtain ⟨i_4,c_5⟩:=s
 have hm7:slices_insertionSortOrdered_uint64_o0_l0 a1 a2 (k6+1) i_4 c_5=some p0:=hM8
 rw [slices_insertionSortOrdered_uint64_o0_l0] at hm7
 refine c_seq (csr ?_)
 refine r_mv z (r_mv z (r_bin z z (bI_lt _ a2) ?_))
 refine nsq ?_
 refine c_if (b:=decide (i_4<a2)) z (fun h9 => ?_) fun h9 => ?_
 rotate_left
 ·have hm10:=iff_ hm7 h9
  refine c_exit (x_exit (ks':=_) z ?_)
  obtain rfl:=si hm10
  exact x_sub K3 trivial (pk 1 [0])
 have hm10:=ift hm7 h9
 refine c_skip (x_seq (c_seq ?_))
 obtain ⟨p11,hp12,hm13⟩:=bs hm10
 refine cd_join (E':=[(0,v0_),(1,vI a1),(2,vI a2),(6,vI i_4)]) (L':=OwS true 22 1 eW v0_ p11::F) ?_ fun K14 => ?_
 ·refine x_seq (c_reg ?_)
  refine r_mv z (r_bin z z (bI_add _ 1) (r_as z ?_))
  refine r_nil ?_
  exact x_lp (i64 (i_4+1),p11) hm13 ⟨z,z,z,z,trivial⟩ (pk 1 [0])
 refine c_blk (csr ?_)
 refine r_mv z (r_as z ?_)
 refine nsq ?_
 obtain ⟨p15,hp16,hm17⟩:=bs hp12
 refine cd_join (E':=[(0,v0_),(1,vI a1),(2,vI a2),(6,vI i_4)]) (L':=OwS true 22 1 eW v0_ p15::F) ?_ fun K18 => ?_
 ·refine x_blk ?_
  obtain rfl:=si hm17
  exact x_sub K14 ⟨z,z,z,z,trivial⟩ (pk 1 [0])
 refine c_blk ?_
 refine cd_loop (M:=fun k21 (s:Int×List UInt64)=>slices_insertionSortOrdered_uint64_o0_l1 a1 k21 s.1 s.2=some p15) (Ef:=fun (s:Int×List UInt64)=>[(0,v0_),(1,vI a1),(2,vI a2),(6,vI i_4),(7,vI s.1)]) (Lf:=fun (s:Int×List UInt64)=>OwS true 22 1 eW v0_ s.2::F) 1100 (i_4,c_5) hp16 ⟨z,z,z,z,z,trivial⟩ (fun _ h=>h) (fun _ h=>by cases h) fun k21 s hM23 => ?_
 obtain ⟨j_19,c_20⟩:=s
 have hm22:slices_insertionSortOrdered_uint64_o0_l1 a1 (k21+1) j_19 c_20=some p15:=hM23
 rw [slices_insertionSortOrdered_uint64_o0_l1] at hm22
 refine c_seq (c_seq ?_)
 obtain ⟨p24,hp25,hm26⟩:=bs hm22
 refine cd_join (E':=[(0,v0_),(1,vI a1),(2,vI a2),(6,vI i_4),(7,vI j_19),(30,vB p24)]) (L':=OwS true 22 1 eW v0_ c_20::F) ?_ fun K27 => ?_
 ·refine x_seq ?_
  refine c_if (b:=p24) z (fun h28 => ?_) fun h28 => ?_
  rotate_left
  ·have hm29:=iff_ hm26 h28
   refine c_exit (x_exit (ks':=_) z ?_)
   obtain rfl:=si hm29
   exact x_sub K18 ⟨z,z,z,z,trivial⟩ (pk 1 [0])
  have hm29:=ift hm26 h28
  refine c_skip (x_seq (c_seq (c_blk ?_)))
  obtain ⟨x30,hx30,hm31⟩:=bs hm29
  obtain ⟨x32,hx32,hm33⟩:=bs hm31
  obtain ⟨x34,hx34,hm35⟩:=bs hm33
  refine c_any mixed (effs:=[15,17]) (V:=[]) ?_
  refine stn mk3_ [0,1,2,3,4,5,6,7,8,9,10,11,12,13,14] [15] [_,_,_,_,_,_,_,_,_,_,_,_,_,_,_] (q_mv z z z (q_mv z z z (q_mv z z z (q_mv z z z (q_u z z (o_bin z z (bI_sub _ 1)) (q_mv z z z (q_mv z z z (q_u z z (o_bin z z (bI_sub _ 1)) (q_u z z (o_ixO 0 Tryz.underlying118 (fun _=>by kernel_rfl) z z z hx30) (q_u z z (o_ldO0 0 sc22 z z hx30 z z) (q_mv z z z (q_mv z z z (q_u z z (o_ixO 0 Tryz.underlying118 (fun _=>by kernel_rfl) z z z hx32) (q_u z z (o_ldO0 0 sc22 z z hx32 z z) (q_u z z (o_ixO 0 Tryz.underlying118 (fun _=>by kernel_rfl) z z z hx32) qn))))))))))))))) ?_ (nxt z)
  refine ec (eo_u z (s_u (o_stO0 (c':=x30) sc22 z z z hx32 z z z)) le_ ?_) en
  refine stx [16] mk3_ [2,3,4,16] [17] [_] (q_mv z z z (q_mv z z z (q_u z z (o_bin z z (bI_sub _ 1)) (q_u z z (o_ixO 0 Tryz.underlying118 (fun _=>by kernel_rfl) z z z hx34) qn)))) ?_ (nxt z)
  refine ec (eo_u z (s_u (o_stO0 (c':=x32) sc22 z z z hx34 z z z)) le_ ?_) en
  refine stage z z z z mk3_ [] [] z z z qn en ?_
  intro _
  refine ex_sub (E':=[(0,v0_),(1,vI a1),(2,vI a2),(6,vI i_4),(7,vI j_19)]) ⟨z,z,z,z,z,trivial⟩ ?_
  refine x_blk (x_seq (c_reg ?_))
  refine r_mv z (r_bin z z (bI_sub _ 1) (r_as z ?_))
  refine r_nil ?_
  exact x_lp (i64 (j_19-1),ls (ls c_20 j_19 x30) (i64 (j_19-1)) x32) hm35 ⟨z,z,z,z,z,trivial⟩ (pk 1 [0])
 refine cd_by (decide (a1<j_19)) (fun h36 => ?_) fun h36 => ?_
 ·have hm37:=ift hp25 h36
  obtain ⟨x38,hx38,hm39⟩:=bs hm37
  obtain ⟨x40,hx40,hm41⟩:=bs hm39
  refine c_any mixed (effs:=[]) (V:=[]) ?_
  refine stn mk20_ [0,1,2,3,4,5,6,7,8,9,10,11,12,13,14] [] [_,_,_,_,_,_,_,_,_,_,_,_,_,_,_] (q_mv z z z (q_mv z z z (q_u z z (o_bin z z (bI_gt _ a1)) (q_mv z z z (q_y z z z z h36 (o_mv z) (q_y z z z z h36 (o_mv z) (q_y z z z z h36 (o_ixO 0 Tryz.underlying118 (fun _=>by kernel_rfl) z z z hx38) (q_y z z z z h36 (o_ldO0 0 sc22 z z hx38 z z) (q_y z z z z h36 (o_mv z) (q_y z z z z h36 (o_mv z) (q_y z z z z h36 (o_bin z z (bI_sub _ 1)) (q_y z z z z h36 (o_ixO 0 Tryz.underlying118 (fun _=>by kernel_rfl) z z z hx40) (q_y z z z z h36 (o_ldO0 0 sc22 z z hx40 z z) (q_y z z z z h36 (o_callq ca196 z (cmp_Less_uint64.ok x38 x40 _ z)) (q_u z z (o_pt z h36 z) qn))))))))))))))) en ?_
  intro _
  refine ex_sub (E':=[(0,v0_),(1,vI a1),(2,vI a2),(6,vI i_4),(7,vI j_19),(30,vB (cmp_Less_uint64 x38 x40))]) ⟨z,z,z,z,z,z,trivial⟩ ?_
  obtain rfl:=si hm41
  exact x_sub K27 ⟨z,z,z,z,z,z,trivial⟩ (pk 1 [0])
 have hm37:=iff_ hp25 h36
 refine c_any mixed (effs:=[]) (V:=[]) ?_
 refine stn mk20_ [0,1,2,3,4,5,6,7,8,9,10,11,12,13,14] [] [_,_,_,_,_,_,_,_,_,_,_,_,_,_,_] (q_mv z z z (q_mv z z z (q_u z z (o_bin z z (bI_gt _ a1)) (q_mv z z z (q_n z z z z h36 (q_n z z z z h36 (q_n z z z z h36 (q_n z z z z h36 (q_n z z z z h36 (q_n z z z z h36 (q_n z z z z h36 (q_n z z z z h36 (q_n z z z z h36 (q_n z z z z h36 (q_u z z (o_pf z h36 z) qn))))))))))))))) en ?_
 intro _
 refine ex_sub (E':=[(0,v0_),(1,vI a1),(2,vI a2),(6,vI i_4),(7,vI j_19),(30,vB false)]) ⟨z,z,z,z,z,z,trivial⟩ ?_
 obtain rfl:=si hm37
 exact x_sub K27 ⟨z,z,z,z,z,z,trivial⟩ (pk 1 [0])
def slices_pdqsortOrdered_uint64_o0(a0:List UInt64)(a1:Int)(a2:Int)(a3:Int):Option (List UInt64) :=
 if decide ((i64 (a2-a1))≤12) then (slices_insertionSortOrdered_uint64_o0 a0 a1 a2).bind fun r2=>some r2 else none
theorem slices_pdqsortOrdered_uint64_o0.ok{G R F}(v0_:Value)(a0:List UInt64)(a1:Int)(a2:Int)(a3:Int)(r:List UInt64)(hm:slices_pdqsortOrdered_uint64_o0 a0 a1 a2 a3=some r):CO Tryz.prog 148 [v0_,vI a1,vI a2,vI a3] G R (OwS true 22 1 eW v0_ a0::F)
  (Ret fun u R' L'=>u = .tuple #[]∧R'=R∧L'=OwS true 22 1 eW v0_ r::F):=by
 unfold slices_pdqsortOrdered_uint64_o0 at hm
 refine co_ofN (N:=134) Tryz.func148 z z ?_
 refine csr ?_
 refine r_as z ?_
 refine nsr ?_
 refine r_as z ?_
 refine r_nil (x_seq (c_blk ?_))
 refine c_loop (fun n (_:Unit)=>n=1) (fun _=>_) (fun _=>_) (fun _=>_) (fun _ h=>by cases h) (fun k s hM => ?_) 1 () z
 refine c_blk (csr ?_)
 refine r_mv z (r_mv z (r_bin z z (bI_sub a2 a1) (r_as z ?_)))
 refine nssr ?_
 refine r_mv z (r_bin z z (bI_le _ 12) ?_)
 refine nsq ?_
 refine c_if (b:=decide ((i64 (a2-a1))≤12)) z (fun h0 => ?_) fun h0 => ?_
 ·have hm1:=ift hm h0
  refine csr ?_
  refine r_mv z (r_mv z (r_mv z ?_))
  obtain ⟨r2,hr2,hm3⟩:=bs hm1
  refine r_c (s_w (o_call ca190 z (slices_insertionSortOrdered_uint64_o0.ok v0_ a0 a1 a2 _ hr2))) ?_
  refine r_nil (x_seq (c_ret ?_))
  obtain rfl:=si hm3
  exact x_r0 z le_ ⟨_,z,z,z,z⟩
 have hm1:=iff_ hm h0
 refine c_skip (x_seq ?_)
 cases hm1
def slices_Sort___uint64_uint64_o0(a0:List UInt64):Option (List UInt64) :=
 (DA (toW (a0.length:Int))).bind fun r0=>(slices_pdqsortOrdered_uint64_o0 a0 0 (a0.length:Int) r0).bind fun r2=>some r2
theorem slices_Sort___uint64_uint64_o0.ok{G R F}(v0_:Value)(a0:List UInt64)(r:List UInt64)(hm:slices_Sort___uint64_uint64_o0 a0=some r):CO Tryz.prog 94 [v0_] G R (OwS true 22 1 eW v0_ a0::F)
  (Ret fun u R' L'=>u = .tuple #[]∧R'=R∧L'=OwS true 22 1 eW v0_ r::F):=by
 unfold slices_Sort___uint64_uint64_o0 at hm
 refine co_ofN (N:=11) Tryz.func94 z z ?_
 refine csr ?_
 refine r_mv z (r_u (o_lenO 0 Tryz.underlying118 z z) (r_as z ?_))
 refine r_nil (x_seq (c_reg ?_))
 refine r_mv z (r_mv z (r_mv z (r_u (o_cv z (cIW Tryz.underlying3 Tryz.underlying134 (a0.length:Int))) ?_)))
 obtain ⟨r0,hr0,hm1⟩:=bs hm
 refine r_u (o_callq ca149 z (DA.ok _ _ hr0)) ?_
 obtain ⟨r2,hr2,hm3⟩:=bs hm1
 refine r_c (s_w (o_call ca148 z (slices_pdqsortOrdered_uint64_o0.ok v0_ a0 0 _ r0 _ hr2))) ?_
 refine r_nil ?_
 refine x_end ?_
 obtain rfl:=si hm3
 exact x_r0 z le_ ⟨_,z,z,z,z⟩
def insR(x:UInt64):List UInt64→List UInt64
 | []=>[x]
 | y::t=>if x<y then y::insR x t else x::y::t
def usort(l:List UInt64):List UInt64:=(l.foldl (fun P x=>insR x P) []).reverse
theorem insR_perm(x:UInt64):∀t,(insR x t).Perm (x::t)
 | []=>List.Perm.refl _
 | y::t=>by
  unfold insR
  split
  ·exact ((insR_perm x t).cons y).trans (List.Perm.swap x y t)
  ·exact List.Perm.refl _
theorem insR_sorted(x:UInt64):∀t:List UInt64,t.Pairwise (fun a b=>b≤a)→(insR x t).Pairwise (fun a b=>b≤a)
 | [],_=>by simp [insR]
 | y::t,h=>by
  unfold insR
  rw [List.pairwise_cons] at h
  split
  ·rename_i hxy
   refine List.pairwise_cons.2 ⟨fun z hz => ?_,insR_sorted x t h.2⟩
   rcases List.mem_cons.1 ((insR_perm x t).subset hz) with rfl | hz2
   ·exact UInt64.le_of_lt hxy
   ·exact h.1 z hz2
  ·rename_i hxy
   have hyx:y≤x:=UInt64.not_lt.1 hxy
   refine List.pairwise_cons.2 ⟨fun z hz => ?_,List.pairwise_cons.2 h⟩
   rcases List.mem_cons.1 hz with rfl | hz2
   ·exact hyx
   ·exact UInt64.le_trans (h.1 z hz2) hyx
theorem fold_perm:∀(l P:List UInt64),(l.foldl (fun P x=>insR x P) P).Perm (l++P)
 | [],P=>List.Perm.refl _
 | x::l,P=>by
  show (l.foldl (fun P x=>insR x P) (insR x P)).Perm _
  refine (fold_perm l (insR x P)).trans ?_
  refine ((insR_perm x P).append_left l).trans ?_
  exact List.perm_middle
theorem fold_sorted:∀(l P:List UInt64),P.Pairwise (fun a b=>b≤a)→(l.foldl (fun P x=>insR x P) P).Pairwise (fun a b=>b≤a)
 | [],P,h=>h
 | x::l,P,h=>fold_sorted l _ (insR_sorted x P h)
theorem usort_perm(l:List UInt64):(usort l).Perm l:=(List.reverse_perm _).trans ((fold_perm l []).trans (by rw [List.append_nil]))
theorem usort_of{l l':List UInt64}(h:l.Perm l'):usort l=usort l':=by
 have h1:=fold_sorted l [] List.Pairwise.nil
 have h2:=fold_sorted l' [] List.Pairwise.nil
 have hp:(l.foldl (fun P x=>insR x P) []).Perm (l'.foldl (fun P x=>insR x P) []):=by
  have a:=fold_perm l [];have b:=fold_perm l' []
  rw [List.append_nil] at a b
  exact a.trans (h.trans b.symm)
 exact congrArg List.reverse (List.Perm.eq_of_pairwise (le:=fun a b=>b≤a) (fun a b _ _ x y=>UInt64.le_antisymm y x) h1 h2 hp)
theorem gi_mid(A B:List UInt64)(x:UInt64)(i:Int)(h:i=(A.length:Int)):gi (A++x::B) i=some x:=by
 subst h;unfold gi;simp
theorem ls_mid(A B:List UInt64)(x y:UInt64)(i:Int)(h:i=(A.length:Int)):ls (A++x::B) i y=A++y::B:=by
 subst h;unfold ls;simp
theorem i64sm(n:Int)(h1 : -9223372036854775808≤n)(h2:n<9223372036854775808):i64 n=n:=by unfold i64;omega
theorem less64(x y:UInt64):cmp_Less_uint64 x y=decide (x<y):=by
 unfold cmp_Less_uint64 cmp_isNaN_uint64;simp
theorem ins_l1:∀(t B:List UInt64) (x:UInt64) (f:Nat),t.length<f→t.length≤1000 →
  slices_insertionSortOrdered_uint64_o0_l1 0 f (t.length:Int) (t.reverse++x::B)=some ((insR x t).reverse++B)
 | _,_,_,0,h,_=>by omega
 | [],B,x,f+1,_,_=>by
  unfold slices_insertionSortOrdered_uint64_o0_l1
  simp [insR]
 | y::t,B,x,f+1,h,hb=>by
  have e0:(y::t).reverse++x::B=t.reverse++y::x::B:=by simp
  have e1:(y::t).reverse++x::B=(y::t).reverse++x::B:=rfl
  have ej:i64 (((y::t).length:Int)-1)=(t.length:Int):=by
   rw [List.length_cons] at hb ⊢
   rw [i64sm _ (by omega) (by omega)];omega
  have hl:((y::t).length:Int)=(((y::t).reverse).length:Int):=by simp
  have hl2:(t.length:Int)=((t.reverse).length:Int):=by simp
  have g1:=gi_mid (y::t).reverse B x _ hl
  have g2:gi ((y::t).reverse++x::B) (t.length:Int)=some y:=by rw [e0];exact gi_mid t.reverse (x::B) y _ hl2
  unfold slices_insertionSortOrdered_uint64_o0_l1
  rw [if_pos (by simp <;> omega),ej,g1,Option.bind_some,g2,Option.bind_some,Option.bind_some,less64]
  by_cases c:x<y
  ·have s1:ls ((y::t).reverse++x::B) ((y::t).length:Int) y=(y::t).reverse++y::B:=ls_mid _ _ _ _ _ hl
   have s2:ls ((y::t).reverse++y::B) (t.length:Int) x=t.reverse++x::(y::B):=by
    rw [show (y::t).reverse++y::B=t.reverse++y::(y::B) by simp];exact ls_mid _ _ _ _ _ hl2
   have g3:gi ((y::t).reverse++y::B) (t.length:Int)=some y:=by
    rw [show (y::t).reverse++y::B=t.reverse++y::(y::B) by simp];exact gi_mid _ _ _ _ hl2
   rw [if_pos (by simpa using c),Option.bind_some,Option.bind_some,s1,g3,Option.bind_some,s2,ins_l1 t (y::B) x f (by simp at h;omega) (by simp at hb;omega)]
   rw [show insR x (y::t)=y::insR x t by rw [insR,if_pos c]];simp
  ·rw [if_neg (by simpa using c)]
   rw [show insR x (y::t)=x::y::t by rw [insR,if_neg c]];simp
theorem ins_l0:∀(rest P:List UInt64) (f:Nat),rest.length<f→P.length+rest.length≤1000 →
  slices_insertionSortOrdered_uint64_o0_l0 0 ((P.length+rest.length:Nat):Int) f (P.length:Int) (P.reverse++rest)=some ((rest.foldl (fun P x=>insR x P) P).reverse)
 | _,_,0,h,_=>by omega
 | [],P,f+1,_,_=>by
  unfold slices_insertionSortOrdered_uint64_o0_l0
  rw [if_neg (by simp)];simp
 | x::rest,P,f+1,h,hb=>by
  rw [List.length_cons] at h hb
  have e:=ins_l1 P rest x 1100 (by omega) (by omega)
  have hl:(insR x P).length=P.length+1:=by rw [(insR_perm x P).length_eq];rfl
  have ih:=ins_l0 rest (insR x P) f (by omega) (by omega)
  rw [hl] at ih
  have ei:i64 ((P.length:Int)+1)=((P.length+1:Nat):Int):=by rw [i64sm _ (by omega) (by omega)];omega
  unfold slices_insertionSortOrdered_uint64_o0_l0
  rw [if_pos (by simp <;> omega),e,Option.bind_some,Option.bind_some,ei,show P.length+(x::rest).length=P.length+1+rest.length by simp <;> omega]
  exact ih
theorem len12:∀n:Fin 13,(DA (toW ((n:Nat):Int))).isSome=true:=by decide +kernel
theorem sort_ok(l:List UInt64)(h:l.length≤12):slices_Sort___uint64_uint64_o0 l=some (usort l):=by
 unfold slices_Sort___uint64_uint64_o0 slices_pdqsortOrdered_uint64_o0 slices_insertionSortOrdered_uint64_o0
 have hL:=len12 ⟨l.length,by omega⟩
 obtain ⟨r,hr⟩:=Option.isSome_iff_exists.1 hL
 have hr:DA (toW (l.length:Int))=some r:=hr
 rw [hr,Option.bind_some,i64sm _ (by omega) (by omega),if_pos (by simp <;> omega),show i64 (0+1)=1 from z]
 cases l with
 | nil=>rfl
 | cons x l =>
  have:=ins_l0 l [x] ((((x::l).length:Int)-1).toNat+1) (by simp <;> omega) (by simp at h ⊢;omega)
  rw [show (([x]:List UInt64).length+l.length:Nat)=(x::l).length by simp <;> omega] at this
  rw [show (([x]:List UInt64).length:Int)=1 from z] at this
  rw [show ([x]:List UInt64).reverse++l=x::l from z] at this
  rw [this];rfl
theorem nd_le{α:Type}[DecidableEq α]:∀{l l':List α},l.Nodup→(∀k∈l,k∈l')→l.length≤l'.length
 | [],_,_,_=>Nat.zero_le _
 | a::l,l',h,hs=>by
  have h1:=List.nodup_cons.1 h
  have h2:=nd_le (l':=l'.erase a) h1.2 fun k hk=>(List.mem_erase_of_ne (by rintro rfl;exact h1.1 hk)).2 (hs k (.tail _ hk))
  have ha:=hs a (.head _)
  rw [List.length_erase_of_mem ha] at h2
  have:=List.length_pos_of_mem ha
  rw [List.length_cons];omega
def mkeysW{V:Type}(m:List (UInt64×V)):Option (List UInt64):=if decide (m.length≤12) then some (usort (m.map (·.1))) else none
theorem vW_inj(a b:UInt64)(h:vW a=vW b):a=b:=by
 unfold vW at h
 injection h with _ h2
 exact UInt64.toNat_inj.1 (by omega)
theorem mkeys64{G R}{F:List HP}{V:Type}{vv:V→Value}{v:Value}{m:List (UInt64×V)}: CO Tryz.prog 53 [v] G R (OwM vW vv v m::F) (Ret fun u R' L'=>∃b,u = .func (.func 95) #[] #[pt b 0]∧R'=R∧L'=Bk b 94 [v]::OwM vW vv v m::F):=by
 refine co_hdm fun a e => ?_
 subst e
 refine co_ofN (N:=4) Tryz.func53 z z ?_
 refine csr ?_
 refine r_new (o_bx [.map a] z z) fun b => ?_
 refine r_as z ?_
 refine nsr ?_
 refine r_u (o_mf (vs:=[pt b 0]) z) (r_as z ?_)
 refine r_nil (x_seq (c_ret ?_))
 exact x_r1 z (rv_t z) le_ ⟨_,z,b,z,z,z⟩
theorem keys64{G R}{V:Type}{vv:V→Value}{a:Option Nat}{m:List (UInt64×V)}{b:Nat}(hnd:(m.map (·.1)).Nodup):
  GivesP Tryz.prog G R 95 [pt b 0] vW (fun pre k=>k∈m.map (·.1)∧k∉pre) (fun kz=>kz.Perm (m.map (·.1))) [Bk b 94 [.map a],OwM vW vv (.map a) m]:=by
 intro l F Inv h0 hY
 change CO Tryz.prog 95 [.func (.yield l) #[] #[],pt b 0] G R (Bk b 94 [.map a]::OwM vW vv (.map a) m::F) (Ret fun u R' L'=>u = .tuple #[]∧R'=R∧∃F' kz,L'=Bk b 94 [.map a]::OwM vW vv (.map a) m::F'∧kz.Perm (m.map (·.1))∧Inv kz F')
 refine co_ofN (N:=14) Tryz.func95 z z ?_
 refine csr ?_
 refine r_ld 0 sc94 z z z ?_
 refine rl_st (fun _ h=>mv1 h) ?_
 refine r_sw (s_w (o_rng Tryz.underlying94 z z)) ?_
 rintro _ R _ _ ⟨rfl,it,rfl,rfl⟩
 refine r_nil (x_seq (c_blk ?_))
 refine cd_loop (σ:=List UInt64×Option (UInt64×V)×List HP) (M:=fun n s=>Inv s.1 s.2.2∧s.1.Nodup∧(∀k∈s.1,k∈m.map (·.1))∧s.1.length+n=m.length+1)
  (Ef:=fun _=>[(0,.func (.yield l) #[] #[]),(1,pt b 0),(5,pt it 0)]) (Lf:=fun s=>MpI vW vv (.map a) m it s.2.1 s.1::Bk b 94 [.map a]::s.2.2)
  (m.length+1) ([],none,F) ⟨h0,List.nodup_nil,(fun _ h=>nomatch h),by simp⟩ ⟨z,z,z,trivial⟩ (fun _ h=>h) (fun s h => ?_) fun n s hM => ?_
 ·have h1:=nd_le h.2.1 h.2.2.1
  have h2:=h.2.2.2
  rw [List.length_map] at h1
  omega
 obtain ⟨done,cur,Fc⟩:=s
 obtain ⟨hInv,hd1,hd2,hd3⟩:=hM
 replace hInv:Inv done Fc:=hInv
 replace hd1:done.Nodup:=hd1
 replace hd2:∀k∈done,k∈m.map (·.1):=hd2
 replace hd3:done.length+(n+1)=m.length+1:=hd3
 change CD _ _ _ [(0,.func (.yield l) #[] #[]),(1,pt b 0),(5,pt it 0)] R (MpI vW vv (.map a) m it cur done::Bk b 94 [.map a]::Fc)
 refine csr ?_
 refine r_sw (s_w (o_nxt vW_inj z z)) ?_
 rintro _ R _ _ ⟨rfl,hc⟩
 rcases hc with ⟨rfl,hall,rfl⟩ | ⟨p,hp,hnp,rfl,rfl⟩
 ·refine r_ext z z ?_
  refine r_nil (x_seq (c_seq ?_))
  refine c_ff z ?_
  refine c_exit (x_exit (ks':=_) z ?_)
  refine x_end ?_
  refine ex_st (fun w h=>mv1 (MpI.own w h)) ?_
  refine x_r0 z le_ ⟨_,z,z,z,Fc,done,z,(List.perm_ext_iff_of_nodup hd1 hnd).2 fun k=>⟨hd2 k,fun hk => ?_⟩,hInv⟩
  obtain ⟨q,hq,rfl⟩:=List.mem_map.1 hk
  exact hall q hq
 refine r_ext z z ?_
 refine r_nil (x_seq (c_seq ?_))
 refine c_tt z ?_
 refine c_skip (x_seq (c_blk (csr ?_)))
 refine r_u (o_ent 0 z z) ?_
 refine r_ext z z (r_as z ?_)
 refine nsr ?_
 refine r_mv z (r_mv z ?_)
 refine r_w (o_yield z z (hY [MpI vW vv (.map a) m it (some p) (done++[p.1]),Bk b 94 [.map a]] done p.1 Fc hInv ⟨List.mem_map.2 ⟨p,hp,z⟩,hnp⟩)) (fun v R' L' _ hC => ?_)
 obtain ⟨hv,hR',F',hL',hInv'⟩:=hC
 subst hv;subst hL';subst hR'
 refine r_u (o_not z) ?_
 refine nsq ?_
 refine c_ff z ?_
 refine c_skip (x_blk ?_)
 refine x_lp (done++[p.1],some p,F') ⟨hInv',?_,fun k hk => ?_,?_⟩ ⟨z,z,z,trivial⟩ (fun _ h=>h)
 ·exact List.nodup_append.2 ⟨hd1,by simp,fun x hx y hy e=>by rw [List.mem_singleton] at hy;subst hy;subst e;exact hnp hx⟩
 ·rcases List.mem_append.1 hk with hk | hk
  ·exact hd2 k hk
  rw [List.mem_singleton] at hk;subst hk;exact List.mem_map.2 ⟨p,hp,z⟩
 show (done++[p.1]).length+n=m.length+1
 rw [List.length_append,List.length_singleton];omega
theorem appendSeq64{G R F}{V:Type}{vv:V→Value}{a:Option Nat}{m:List (UInt64×V)}{b:Nat}(hnd:(m.map (·.1)).Nodup)(h12:m.length≤12):
  CO Tryz.prog 147 [.slice none 0 0,.func (.func 95) #[] #[pt b 0]] G R (Bk b 94 [.map a]::OwM vW vv (.map a) m::F)
   (Ret fun u R' L'=>R'=R∧∃kz:List UInt64,kz.Perm (m.map (·.1))∧L'=OwS true 22 1 eW u kz::Bk b 94 [.map a]::OwM vW vv (.map a) m::F):=by
 refine co_ofM (N:=13) Tryz.func147 z z ?_
 refine csr ?_
 refine r_new (o_bx [.slice none 0 0] z z) fun b2 => ?_
 refine r_as z ?_
 refine nssr ?_
 refine r_mv z ?_
 refine r_nil (x_seq (c_blk ?_))
 refine cd_st (fun _ h=>st_nil (ap:=true) (T:=22) (sz:=1) (en:=eW) h) ?_
 refine cd_st (pk 5 [3,4,1,0,2]) ?_
 refine c_rangeP (A0:=[Bk b 94 [.map a],OwM vW vv (.map a) m]) (L0:=Bk b2 118 [.slice none 0 0]::OwS true 22 1 eW (.slice none 0 0) []::MkC []::F)
  (fun pre L=>(∃v,L=Bk b2 118 [v]::OwS true 22 1 eW v pre::MkC []::F)∧pre.Nodup∧∀k∈pre,k∈m.map (·.1))
  rfl ca95 rfl (keys64 hnd) ⟨⟨_,rfl⟩,List.nodup_nil,(fun _ h=>nomatch h)⟩
  (E1:=fun k=>[(2,pt b2 0),(5,vW k)]) (fun k y e1 e2 e3 e4 ks L hx => ?_) (fun l T pre k L1 hi hok => ?_) (fun D L1 kz hfin hi => ?_)
 ·refine c_reg ?_
  refine r_as z ?_ (by rw [e3];rfl)
  refine r_nil ?_
  exact ex_sub (E':=[(2,pt b2 0),(5,vW k)]) ⟨z,z,trivial⟩ hx
 ·obtain ⟨⟨v,rfl⟩,hp1,hp2⟩:=hi
  have hle:=nd_le hp1 hp2
  rw [List.length_map] at hle
  have hb:apd 8 pre [k]=some (pre++[k]):=by
   unfold apd;rw [if_pos];simp only [List.length_cons,List.length_nil];omega
  change CD _ _ _ _ R (Bk b2 118 [v]::OwS true 22 1 eW v pre::MkC []::(F++T))
  refine c_blk (c_reg ?_)
  refine r_ld 0 sc118 z z z ?_
  refine r_mv z ?_
  refine r_sw (s_w (o_bsl (en:=eW) (sz:=1) (e:=22) (cs:=[vW k]) (r:=[k]) z (fun _=>by kernel_rfl) z (by decide) z (fun _=>z))) ?_
  rintro v22 R _ _ ⟨rfl,rfl⟩
  refine rl_st (pk 3 [2,0,1]) ?_
  refine r_sw (s_w (o_ap (sz:=1) (bytes:=8) 0 Tryz.underlying118 z z z z z (by decide) (by decide) (fun _ _ _ h=>by simp at h;subst h;rfl) (fun _=>z) z z z z (Nat.succ_pos _) hb)) ?_
  rintro v23 R _ _ ⟨rfl,rfl⟩
  refine rl_st (fun _ h=>mv2 h) ?_
  refine r_u0 (ou_if (one_o 1 z) fun ho0=>o_st sc118 z z z ho0 z z) ?_
  refine r_nil (x_blk ?_)
  refine ex_st (pk 4 [0,1,3]) ?_
  refine x_round z le_ ⟨z,z,Bk b2 118 [v23]::OwS true 22 1 eW v23 (pre++[k])::MkC []::F,z,⟨v23,z⟩,?_,fun q hq => ?_⟩
  ·exact List.nodup_append.2 ⟨hp1,by simp,fun x hx y hy e=>by rw [List.mem_singleton] at hy;subst hy;subst e;exact hok.2 hx⟩
  ·rcases List.mem_append.1 hq with hq | hq
   ·exact hp2 q hq
   ·rw [List.mem_singleton] at hq;subst hq;exact hok.1
 ·obtain ⟨⟨v,rfl⟩,_,_⟩:=hi
  refine x_blk (x_seq (csr ?_))
  refine r_ld 3 sc118 z z z ?_
  refine r_as z ?_
  refine r_nil (x_seq (c_ret ?_))
  refine ex_st (fun w h=>mk_add (st_pk 6 [0,5,4,1,2] (by decide) h)) ?_
  exact x_m1 z (rv_t z) (fun _ h=>h) le_ ⟨_,z,z,kz,hfin,z⟩
theorem collect64{G R F}{V:Type}{vv:V→Value}{a:Option Nat}{m:List (UInt64×V)}{b:Nat}(hnd:(m.map (·.1)).Nodup)(h12:m.length≤12):
  CO Tryz.prog 93 [.func (.func 95) #[] #[pt b 0]] G R (Bk b 94 [.map a]::OwM vW vv (.map a) m::F)
   (Ret fun u R' L'=>R'=R∧∃kz:List UInt64,kz.Perm (m.map (·.1))∧L'=OwS true 22 1 eW u kz::Bk b 94 [.map a]::OwM vW vv (.map a) m::F):=by
 refine co_ofN (N:=5) Tryz.func93 z z ?_
 refine csr ?_
 refine r_as z ?_
 refine nsr ?_
 refine r_mv z ?_
 refine r_sw (s_w (o_call ca147 z (appendSeq64 hnd h12))) ?_
 rintro v R _ _ ⟨rfl,kz,hkz,rfl⟩
 refine r_as z ?_
 refine r_nil (x_seq (c_ret ?_))
 exact x_r1 z (rv_t z) le_ ⟨_,z,z,kz,hkz,z⟩
theorem sorted64{G R}{F:List HP}{V:Type}{vv:V→Value}{v:Value}{m:List (UInt64×V)}{b:Nat}{r:List UInt64}(hm:mkeysW m=some r):
  CO Tryz.prog 52 [.func (.func 95) #[] #[pt b 0]] G R (Bk b 94 [v]::OwM vW vv v m::F) (Ret fun u R' L'=>R'=R∧L'=OwS true 22 1 eW u r::OwM vW vv v m::F):=by
 unfold mkeysW at hm
 split at hm
 case isFalse=>cases hm
 rename_i hc
 obtain rfl:=si hm
 simp only [decide_eq_true_eq] at hc
 refine co_ndm 1 z fun a e hnd => ?_
 subst e
 refine co_ofN (N:=9) Tryz.func52 z z ?_
 refine csr ?_
 refine r_as z ?_
 refine nsr ?_
 refine r_mv z ?_
 refine r_sw (s_w (o_call ca93 z (collect64 hnd hc))) ?_
 rintro v R _ _ ⟨rfl,kz,hkz,rfl⟩
 refine r_as z ?_
 refine nsr ?_
 refine r_mv z ?_
 have hs:=sort_ok kz (by rw [hkz.length_eq,List.length_map];exact hc)
 rw [usort_of hkz] at hs
 refine r_c (s_w (o_call ca94 z (slices_Sort___uint64_uint64_o0.ok v kz _ hs))) ?_
 refine nsr ?_
 refine r_mv z (r_as z ?_)
 refine r_nil (x_seq (c_ret ?_))
 refine ex_st (pk 2 [0]) ?_
 exact x_r1 z (rv_t z) le_ ⟨_,z,z,z⟩
def CJ : Nat→UInt64→Str→Option (UInt64×Str)
 | 0,_,_=>none
 | k9+1,n_7,c_8=>if decide (128≤n_7) then (apd 1 c_8 [((n_7%128).toUInt8)+128]).bind fun l14=>CJ k9 (n_7/128) l14 else some (n_7,c_8)
def AB(a0:UInt64):Option Str :=
 Option.bind (CJ 11 a0 []) fun p1=>(apd 1 p1.2 [p1.1.toUInt8]).bind fun l5=>some l5
theorem AB.ok{G R F}(a0:UInt64)(r:Str)(hm:AB a0=some r):CO Tryz.prog 49 [vW a0] G R (F)
  (Ret fun u R' L'=>u=vS r∧R'=R∧L'=F):=by
 unfold AB at hm
 refine co_ofN (N:=17) Tryz.func49 z z ?_
 refine csr ?_
 refine r_as z ?_
 refine nsr ?_
 refine r_new (o_al ze167) fun b0 => ?_
 refine rl_st (fun _ h=>bld_new (e:=5) h) ?_
 refine r_nil (x_seq (c_seq ?_))
 obtain ⟨p1,hp2,hm3⟩:=bs hm
 refine cd_join (E':=[(3,pt b0 0),(0,vW p1.1)]) (L':=Bld 167 5 b0 p1.2::F) ?_ fun K4 => ?_
 ·refine x_seq (csr ?_)
  refine r_mv z (r_u (o_cv z (cWY Tryz.underlying22 Tryz.underlying5 p1.1)) ?_)
  obtain ⟨l5,hl5,hm6⟩:=bs hm3
  refine r_c (s_w (o_call ca88 z (bld_WriteByte.ok b0 p1.2 p1.1.toUInt8 _ hl5))) ?_
  refine nsr ?_
  refine r_c (s_w (o_call ca89 z (bld_String.ok b0 l5))) ?_
  refine r_as z ?_
  refine r_nil (x_seq (c_ret ?_))
  obtain rfl:=si hm6
  exact x_r1 z (rv_t z) le_ ⟨_,z,z,z,z⟩
 refine c_blk ?_
 refine cd_loop (M:=fun k9 (s:UInt64×Str)=>CJ k9 s.1 s.2=some p1) (Ef:=fun (s:UInt64×Str)=>[(3,pt b0 0),(0,vW s.1)]) (Lf:=fun (s:UInt64×Str)=>Bld 167 5 b0 s.2::F) 11 (a0,[]) hp2 ⟨z,z,trivial⟩ (fun _ h=>h) (fun _ h=>by cases h) fun k9 s hM11 => ?_
 obtain ⟨n_7,c_8⟩:=s
 have hm10:CJ (k9+1) n_7 c_8=some p1:=hM11
 rw [CJ] at hm10
 refine c_seq (csr ?_)
 refine r_mv z (r_bin z z (bW_ge _ 128) ?_)
 refine nsq ?_
 refine c_if (b:=decide (128≤n_7)) z (fun h12 => ?_) fun h12 => ?_
 ·have hm13:=ift hm10 h12
  refine c_skip (x_seq (c_seq (c_blk (c_reg ?_))))
  refine r_mv z (r_bin z z (bW_rem _ 128 (by decide)) (r_u (o_cv z (cWY Tryz.underlying22 Tryz.underlying5 (n_7%128))) (r_bin z z (bY_add _ 128) ?_)))
  obtain ⟨l14,hl14,hm15⟩:=bs hm13
  refine r_c (s_w (o_call ca88 z (bld_WriteByte.ok b0 c_8 (((n_7%128).toUInt8)+128) _ hl14))) ?_
  refine r_nil (x_blk (x_seq (c_reg ?_)))
  refine r_mv z (r_bin z z (bW_quo _ 128 (by decide)) (r_as z ?_))
  refine r_nil ?_
  exact x_lp (n_7/128,l14) hm15 ⟨z,z,trivial⟩ (pk 1 [0])
 have hm13:=iff_ hm10 h12
 refine c_exit (x_exit (ks':=_) z ?_)
 obtain rfl:=si hm13
 exact x_sub K4 ⟨z,z,trivial⟩ (pk 1 [0])
def Cc(a0:Str):Option Str :=
 (AB (toW (a0.length:Int))).bind fun r0=>if r0.length+a0.length≤maxS then some (r0++a0) else none
theorem Cc.ok{G R F}(a0:Str)(r:Str)(hm:Cc a0=some r):CO Tryz.prog 90 [vS a0] G R (F)
  (Ret fun u R' L'=>u=vS r∧R'=R∧L'=F):=by
 unfold Cc at hm
 refine co_ofN (N:=9) Tryz.func90 z z ?_
 refine csr ?_
 refine r_as z ?_
 refine nsr ?_
 refine r_mv z (r_u (o_lenS Tryz.underlying9 z) (r_u (o_cv z (cIW Tryz.underlying3 Tryz.underlying22 (a0.length:Int))) ?_))
 obtain ⟨r0,hr0,hm1⟩:=bs hm
 refine r_u (o_callq ca49 z (AB.ok _ _ hr0)) (r_mv z ?_)
 obtain ⟨h2,hm3⟩:=ig hm1
 refine r_bin z z (bS_add r0 a0 h2) (r_as z ?_)
 refine r_nil (x_seq (c_ret ?_))
 obtain rfl:=si hm3
 exact x_r1 z (rv_t z) le_ ⟨_,z,z,z,z⟩
def B3(a0:Av):Av :=
 (⟨i64 (1+(iand a0.Policy 1)),i64 (1+(iand a0.Entries 15)),i64 (1+(iand a0.Bytes 1023)),a0.Seed⟩:Av)
theorem B3.ok{G R F}(a0:Av)(r:Av)(hm:B3 a0=r):CO Tryz.prog 18 [.agg (Av.c a0).toArray] G R (F)
  (Ret fun u R' L'=>u = .agg (Av.c r).toArray∧R'=R∧L'=F):=by
 unfold B3 at hm
 refine co_ofN (N:=19) Tryz.func18 z z ?_
 refine csr ?_
 refine r_new (o_bx (Av.c a0) z z) fun b0 => ?_
 refine r_new (o_al ze24) fun b1 => ?_
 refine nsr ?_
 refine r_fa fa24_0 z (r_ld 1 sc3 z z z (r_bin z z (bI_and _ 1) (r_bin z z (bI_add 1 _) (r_fa fa24_1 z (r_ld 1 sc3 z z z (r_bin z z (bI_and _ 15) (r_bin z z (bI_add 1 _) (r_fa fa24_2 z (r_ld 1 sc3 z z z (r_bin z z (bI_and _ 1023) (r_bin z z (bI_add 1 _) (r_fa fa24_0 z ?_))))))))))))
 refine rl_st (fun _ h=>mv1 h) ?_
 refine r_u0 (o_st sc3 z z z z z z) ?_
 refine r_fa fa24_1 z ?_
 refine r_u0 (o_st sc3 z z z z z z) ?_
 refine r_fa fa24_2 z ?_
 refine r_u0 (o_st sc3 z z z z z z) ?_
 refine nsr ?_
 refine r_u (o_ldn 0 [vI (i64 (1+(iand a0.Policy 1))),vI (i64 (1+(iand a0.Entries 15))),vI (i64 (1+(iand a0.Bytes 1023))),vW a0.Seed] ag24 z z z z) ?_
 refine rl_st (fun _ h=>mv1 h) ?_
 refine r_u0 (o_stn ag24 z z z z z z z) ?_
 refine r_nil (x_seq (c_ret ?_))
 subst hm
 exact x_d1 z (rv_n 0 [vI (i64 (1+(iand a0.Policy 1))),vI (i64 (1+(iand a0.Entries 15))),vI (i64 (1+(iand a0.Bytes 1023))),vW a0.Seed] ag24 z z z z) (pk 2 []) le_ ⟨_,z,z,z,z⟩
def BP(a0:Av):Bool :=
 ((((((a0.Policy==1)||(a0.Policy==2))&&decide (1≤a0.Entries))&&decide (a0.Entries≤1000))&&decide (1≤a0.Bytes))&&decide (a0.Bytes≤1048576))
theorem BP.ok{G R F}(a0:Av)(r:Bool)(hm:BP a0=r):CO Tryz.prog 29 [.agg (Av.c a0).toArray] G R (F)
  (Ret fun u R' L'=>u=vB r∧R'=R∧L'=F):=by
 unfold BP at hm
 refine co_ofN (N:=33) Tryz.func29 z z ?_
 refine csr ?_
 refine r_new (o_bx (Av.c a0) z z) fun b0 => ?_
 refine r_as z ?_
 refine nsr ?_
 refine r_fa fa24_0 z (r_ld 0 sc3 z z z (r_bin z z (bI_eq _ 1) (r_mv z ?_)))
 refine r_s (s_gf z z fun g=>o_fa fa24_0 z) ?_
 refine r_s (s_gf z z fun g=>o_ld 0 sc3 (evg z g) z z) ?_
 refine r_s (s_gf z z fun g=>o_bin (evg z g) z (bI_eq _ 2)) ?_
 refine r_u (o_or z z) (r_as z ?_)
 refine nsr ?_
 refine r_mv z (r_mv z ?_)
 refine r_s (s_gt z z fun g=>o_fa fa24_1 z) ?_
 refine r_s (s_gt z z fun g=>o_ld 0 sc3 (evg z g) z z) ?_
 refine r_s (s_gt z z fun g=>o_bin (evg z g) z (bI_ge _ 1)) ?_
 refine r_u (o_and z z) (r_mv z ?_)
 refine r_s (s_gt z z fun g=>o_fa fa24_1 z) ?_
 refine r_s (s_gt z z fun g=>o_ld 0 sc3 (evg z g) z z) ?_
 refine r_s (s_gt z z fun g=>o_bin (evg z g) z (bI_le _ 1000)) ?_
 refine r_u (o_and z z) (r_mv z ?_)
 refine r_s (s_gt z z fun g=>o_fa fa24_2 z) ?_
 refine r_s (s_gt z z fun g=>o_ld 0 sc3 (evg z g) z z) ?_
 refine r_s (s_gt z z fun g=>o_bin (evg z g) z (bI_ge _ 1)) ?_
 refine r_u (o_and z z) (r_mv z ?_)
 refine r_s (s_gt z z fun g=>o_fa fa24_2 z) ?_
 refine r_s (s_gt z z fun g=>o_ld 0 sc3 (evg z g) z z) ?_
 refine r_s (s_gt z z fun g=>o_bin (evg z g) z (bI_le _ 1048576)) ?_
 refine r_u (o_and z z) (r_as z ?_)
 refine r_nil (x_seq (c_ret ?_))
 subst hm
 refine ex_st (pk 1 []) ?_
 exact x_r1 z (rv_t z) le_ ⟨_,z,z,z,z⟩
def Dd(a0:Int):Nat→Int→(List Int)→Option (List Int)
 | 0,_,_=>none
 | k28+1,i_25,c_26=>if decide (0≤i_25) then (apd 8 c_26 [i64 (a0+i_25)]).bind fun l35=>Dd a0 k28 (i64 (i_25-1)) l35 else some c_26
def De(a0:Int):Nat→Int→(List As)→Option (List As)
 | 0,_,_=>none
 | k39+1,s_37,c_38=>if decide (s_37<a0) then (gi c_38 s_37).bind fun x44=>De a0 k39 (i64 (s_37+1)) (ls c_38 s_37 (⟨[],s_37,s_37,s_37⟩:As)) else some c_38
def CV(a0:Int)(a1:Int):Option (Option Ab×Int) :=
 if (((decide (a0<1)||decide (8<a0))||decide (a1<0))||decide (4096<a1)) then some (none,1) else (mks 8 a0 (0:Int)).bind fun l11=>(mks 40 (i64 (a0+a1)) ((⟨[],0,0,0⟩:As):As)).bind fun l13=>Option.bind (De a0 ((a0-0).toNat+1) 0 l13) fun p16=>Option.bind (Dd a0 (((i64 (a1-1))+1).toNat+1) (i64 (a1-1)) []) fun p20=>some ((some (⟨a0,p16,p20,[],l11⟩:Ab)),0)
theorem CV.ok{G R F}(a0:Int)(a1:Int)(r:Option Ab×Int)(hm:CV a0 a1=some r):CO Tryz.prog 128 [vI a0,vI a1] G R (F)
  (Ret fun u R' L'=>∃(p0:Value×Ab.G),u = .tuple #[p0.1,vI r.2]∧R'=R∧L'=rO (Ab.op p0.2) p0.1 r.1::F):=by
 unfold CV at hm
 refine co_ofN (N:=67) Tryz.func128 z z ?_
 refine csr ?_
 refine r_as z (r_as z ?_)
 refine nssr ?_
 refine r_mv z (r_bin z z (bI_lt a0 1) (r_mv z ?_))
 refine r_s (s_gf z z fun g=>o_mv z) ?_
 refine r_s (s_gf z z fun g=>o_bin (evg z g) z (bI_gt a0 8)) ?_
 refine r_u (o_or z z) (r_mv z ?_)
 refine r_s (s_gf z z fun g=>o_mv z) ?_
 refine r_s (s_gf z z fun g=>o_bin (evg z g) z (bI_lt a1 0)) ?_
 refine r_u (o_or z z) (r_mv z ?_)
 refine r_s (s_gf z z fun g=>o_mv z) ?_
 refine r_s (s_gf z z fun g=>o_bin (evg z g) z (bI_gt a1 4096)) ?_
 refine r_u (o_or z z) ?_
 refine nsq ?_
 refine c_if (b:=(((decide (a0<1)||decide (8<a0))||decide (a1<0))||decide (4096<a1))) z (fun h0 => ?_) fun h0 => ?_
 ·have hm1:=ift hm h0
  refine csr ?_
  refine r_as z (r_as z ?_)
  refine r_nil (x_seq (c_ret ?_))
  refine ex_st (fun _ h=>st_none (f:=Ab.op default) h) ?_
  obtain rfl:=si hm1
  exact x_r2 z (rv_t z) (rv_t z) le_ ⟨_,z,(nl,default),z,z,z⟩
 have hm1:=iff_ hm h0
 refine c_skip (x_seq (c_seq ?_))
 obtain ⟨l11,hl11,hm12⟩:=bs hm1
 obtain ⟨l13,hl13,hm14⟩:=bs hm12
 refine c_anyF mixed (effs:=[9]) (fr:=[(1,fun u=>OwM vS vI u []),(3,fun u=>OwS true 3 1 eI u l11),(7,fun u=>OwS true 240 4 As.c u l13)]) (V:=[]) z ?_
 refine stageF_ext [(0,vI a0),(2,vI a0),(4,vI a0),(5,vI a1),(6,vI (i64 (a0+a1)))] z ?_
 refine stageG z z z z z z mk4_ [0,2,4,5,6] [] (by kernel_rfl) (by kernel_rfl) (by kernel_rfl) (by kernel_rfl) (tc z z (fun A=>s_u (o_mv z)) (tc z z (fun A=>s_u (o_mv z)) (tc z z (fun A=>s_u (o_mv z)) (tc z z (fun A=>s_u (o_mv z)) (tc z z (fun A=>s_u (o_bin z z (bI_add a0 a1))) tn))))) (fcons z (fun A=>s_w (o_mm (kv:=vS) (vv:=vI))) (fcons z (fun A=>s_w (o_mk (sz:=1) (bytes:=8) (e:=3) (en:=eI) Tryz.underlying234 z z z z z z z z z hl11)) (fcons z (fun A=>s_w (o_mk (sz:=4) (bytes:=40) (e:=240) (en:=As.c) Tryz.underlying233 z z z z z z z z z hl13)) fnil))) etn fun bt10 => ?_
 refine stage_ext [(8,.agg [vI a0,(bt10 7),.slice none 0 0,(bt10 1),(bt10 3)].toArray)] z ?_
 refine stage z z z z mk4_ [0,8] [9] (by kernel_rfl) (by kernel_rfl) (by kernel_rfl) (q_mv z z z (q_u z z (ou_if (hd_m 0 z) fun hb0=>ou_if (hd_o 1 z) fun hb1=>ou_if (hd_o 2 z) fun hb2=>o_bld [vI a0,(bt10 7),.slice none 0 0,(bt10 1),(bt10 3)] z (fun _=>by obtain ⟨_,he0⟩:=hb0;rw [he0];obtain ⟨_,_,he1⟩:=hb1;rw [he1];obtain ⟨_,_,he2⟩:=hb2;rw [he2];kernel_rfl)) qn)) ?_ (fun h=>absurd (show false=true from h) (by decide))
 refine ec (eo_n z (s_w (o_bx [vI a0,(bt10 7),.slice none 0 0,(bt10 1),(bt10 3)] z z)) fun b15 => ?_) en
 refine stage_ext [(10,pt b15 0)] z ?_
 refine stage z z z z mk4_ [10] [] (by kernel_rfl) (by kernel_rfl) (by kernel_rfl) (q_u z z (o_as z) qn) en ?_
 intro _
 refine ex_sub (E':=[(0,vI a0),(1,vI a1),(6,pt b15 0)]) ⟨z,z,z,trivial⟩ ?_
 refine x_seq (c_seq (csr ?_))
 refine r_mv z (r_mv z ?_)
 refine nsq ?_
 obtain ⟨p16,hp17,hm18⟩:=bs hm14
 refine cd_join (E':=[(0,vI a0),(1,vI a1),(6,pt b15 0)]) (L':=Bk b15 237 [vI a0,(bt10 7),.slice none 0 0,(bt10 1),(bt10 3)]::OwM vS vI (bt10 1) []::OwS true 3 1 eI (bt10 3) l11::OwS true 240 4 As.c (bt10 7) p16::F) ?_ fun K19 => ?_
 rotate_left
 ·refine c_blk ?_
  refine cd_loop (M:=fun k39 (s:Int×List As)=>De a0 k39 s.1 s.2=some p16) (Ef:=fun (s:Int×List As)=>[(0,vI a0),(1,vI a1),(6,pt b15 0),(33,vI a0),(34,vI s.1)]) (Lf:=fun (s:Int×List As)=>Bk b15 237 [vI a0,(bt10 7),.slice none 0 0,(bt10 1),(bt10 3)]::OwM vS vI (bt10 1) []::OwS true 3 1 eI (bt10 3) l11::OwS true 240 4 As.c (bt10 7) s.2::F) ((a0-0).toNat+1) (0,l13) hp17 ⟨z,z,z,z,z,trivial⟩ (fun _ h=>h) (fun _ h=>by cases h) fun k39 s hM41 => ?_
  obtain ⟨s_37,c_38⟩:=s
  have hm40:De a0 (k39+1) s_37 c_38=some p16:=hM41
  rw [De] at hm40
  refine csr ?_
  refine r_bin z z (bI_lt _ a0) ?_
  refine r_nil (x_seq (c_seq ?_))
  refine c_if (b:=decide (s_37<a0)) z (fun h42 => ?_) fun h42 => ?_
  rotate_left
  ·have hm43:=iff_ hm40 h42
   refine c_exit (x_exit (ks':=_) z ?_)
   obtain rfl:=si hm43
   exact x_sub K19 ⟨z,z,z,trivial⟩ (pk 4 [0,1,2,3])
  have hm43:=ift hm40 h42
  refine c_skip (x_seq (c_seq (c_blk (csr ?_))))
  refine r_mv z (r_as z ?_)
  refine r_nil (x_seq (c_reg ?_))
  refine r_mv z (r_nc z (r_fa fa237_1 z (r_ld 0 sc233 z z z (r_mv z (r_mv z (r_mv z (r_mv z ?_)))))))
  refine r_u (o_bld [vS [],vI s_37,vI s_37,vI s_37] z (fun _=>by kernel_rfl)) ?_
  obtain ⟨x44,hx44,hm45⟩:=bs hm43
  refine r_u (o_ixO 3 Tryz.underlying233 (fun _=>by kernel_rfl) z z z hx44) ?_
  refine rl_st (fun _ h=>mv3 h) ?_
  refine r_u0 (o_stnO (c':=(⟨[],s_37,s_37,s_37⟩:As)) ag240 z z z hx44 z z z) ?_
  refine r_nil (x_blk (x_seq (c_reg ?_)))
  refine r_bin z z (bI_add _ 1) (r_mv z ?_)
  refine r_nil ?_
  exact x_lp (i64 (s_37+1),ls c_38 s_37 (⟨[],s_37,s_37,s_37⟩:As)) hm45 ⟨z,z,z,z,z,trivial⟩ (pk 4 [1,2,3,0])
 refine x_seq (c_seq (csr ?_))
 refine r_mv z (r_bin z z (bI_sub a1 1) (r_as z ?_))
 refine nsq ?_
 obtain ⟨p20,hp22,hm23⟩:=bs hm18
 refine cd_cut (fun x ks=>∀(g21:Value),EX x .normal ks [(6,pt b15 0)] R (Bk b15 237 [vI a0,(bt10 7),g21,(bt10 1),(bt10 3)]::OwM vS vI (bt10 1) []::OwS true 3 1 eI (bt10 3) l11::OwS true 240 4 As.c (bt10 7) p16::OwS true 3 1 eI g21 p20::F)) ?_ fun K24 => ?_
 ·intro g21
  refine x_seq (csr ?_)
  refine r_mv z (r_as z (r_as z ?_))
  refine r_nil (x_seq (c_ret ?_))
  refine ex_st (fun _ h=>mv4 (mv4 (mv4 (mv2 (mv2 h))))) ?_
  refine ex_st (fun _ h=>st_some (f:=Ab.op (⟨(bt10 7),g21,(bt10 1),(bt10 3)⟩:Ab.G)) (a:=(⟨a0,p16,p20,[],l11⟩:Ab)) (st_star_f (A:=Ab.fl b15 (⟨a0,p16,p20,[],l11⟩:Ab) (⟨(bt10 7),g21,(bt10 1),(bt10 3)⟩:Ab.G)) h)) ?_
  obtain rfl:=si hm23
  exact x_r2 z (rv_t z) (rv_t z) le_ ⟨_,z,(pt b15 0,(⟨(bt10 7),g21,(bt10 1),(bt10 3)⟩:Ab.G)),z,z,z⟩
 refine c_blk ?_
 refine cd_st (fun _ h=>st_nil (ap:=true) (T:=3) (sz:=1) (en:=eI) h) ?_
 refine cd_loopG (M:=fun k28 (s:Int×List Int×Value)=>Dd a0 k28 s.1 s.2.1=some p20) (Ef:=fun (s:Int×List Int×Value)=>[(0,vI a0),(6,pt b15 0),(8,vI s.1)]) (Rf:=fun (s:Int×List Int×Value)=>R) (Lf:=fun (s:Int×List Int×Value)=>Bk b15 237 [vI a0,(bt10 7),s.2.2,(bt10 1),(bt10 3)]::OwM vS vI (bt10 1) []::OwS true 3 1 eI (bt10 3) l11::OwS true 240 4 As.c (bt10 7) p16::OwS true 3 1 eI s.2.2 s.2.1::F) (((i64 (a1-1))+1).toNat+1) (i64 (a1-1),[],.slice none 0 0) hp22 ⟨z,z,z,trivial⟩ (pk 5 [1,2,3,4,0]) (fun _ h=>by cases h) fun k28 s hM30 => ?_
 obtain ⟨i_25,c_26,g27⟩:=s
 have hm29:Dd a0 (k28+1) i_25 c_26=some p20:=hM30
 rw [Dd] at hm29
 refine c_seq (csr ?_)
 refine r_mv z (r_bin z z (bI_ge _ 0) ?_)
 refine nsq ?_
 refine c_if (b:=decide (0≤i_25)) z (fun h31 => ?_) fun h31 => ?_
 rotate_left
 ·have hm32:=iff_ hm29 h31
  refine c_exit (x_exit (ks':=_) z ?_)
  obtain rfl:=si hm32
  exact x_sub (K24 g27) ⟨z,trivial⟩ (pk 5 [0,1,2,3,4])
 have hm32:=ift hm29 h31
 refine c_skip (x_seq (c_seq (c_blk (c_reg ?_))))
 refine r_mv z (r_mv z (r_nc z (r_fa fa237_2 z (r_ld 0 sc234 z z z (r_mv z (r_mv z (r_bin z z (bI_add a0 _) ?_)))))))
 refine r_sw (s_w (o_bsl (en:=eI) (sz:=1) (e:=3) (cs:=[vI (i64 (a0+i_25))]) (r:=[i64 (a0+i_25)]) z (fun _=>by kernel_rfl) z (by decide) z (fun _=>z))) ?_
 rintro v33 R _ _ ⟨rfl,rfl⟩
 obtain ⟨l35,hl35,hm36⟩:=bs hm32
 refine rl_st (fun _ h=>mv5 h) ?_
 refine r_sw (s_w (o_ap (sz:=1) (bytes:=8) 0 Tryz.underlying234 z z z z z (by decide) (by decide) (fun _ _ _ h=>by simp at h;subst h;rfl) (fun _=>z) z z z z (Nat.succ_pos _) hl35)) ?_
 rintro v34 R _ _ ⟨rfl,rfl⟩
 refine r_nc z (r_fa fa237_2 z ?_)
 refine rl_st (fun _ h=>mv2 h) ?_
 refine r_u0 (ou_if (one_o 1 z) fun ho0=>o_st sc234 z z z ho0 z z) ?_
 refine r_nil (x_blk (x_seq (c_reg ?_)))
 refine r_mv z (r_bin z z (bI_sub _ 1) (r_as z ?_))
 refine r_nil ?_
 exact x_lp (i64 (i_25-1),l35,v34) hm36 ⟨z,z,z,trivial⟩ (pk 6 [0,3,4,5,1])
def DD(a0:Int):Option (Option Ai×Int) :=
 if (decide (a0<1)||decide (1000<a0)) then some (none,1) else (CV 4 (i64 ((i64 (2*a0))+1))).bind fun r2=>some ((some (⟨a0,0,r2.1⟩:Ai)),r2.2)
theorem DD.ok{G R F}(a0:Int)(r:Option Ai×Int)(hm:DD a0=some r):CO Tryz.prog 75 [vI a0] G R (F)
  (Ret fun u R' L'=>∃(p0:Value×Ai.G),u = .tuple #[p0.1,vI r.2]∧R'=R∧L'=rO (Ai.op p0.2) p0.1 r.1::F):=by
 unfold DD at hm
 refine co_ofN (N:=24) Tryz.func75 z z ?_
 refine csr ?_
 refine r_as z (r_as z ?_)
 refine nssr ?_
 refine r_mv z (r_bin z z (bI_lt a0 1) (r_mv z ?_))
 refine r_s (s_gf z z fun g=>o_mv z) ?_
 refine r_s (s_gf z z fun g=>o_bin (evg z g) z (bI_gt a0 1000)) ?_
 refine r_u (o_or z z) ?_
 refine nsq ?_
 refine c_if (b:=(decide (a0<1)||decide (1000<a0))) z (fun h0 => ?_) fun h0 => ?_
 ·have hm1:=ift hm h0
  refine csr ?_
  refine r_as z (r_as z ?_)
  refine r_nil (x_seq (c_ret ?_))
  refine ex_st (fun _ h=>st_none (f:=Ai.op default) h) ?_
  obtain rfl:=si hm1
  exact x_r2 z (rv_t z) (rv_t z) le_ ⟨_,z,(nl,default),z,z,z⟩
 have hm1:=iff_ hm h0
 refine c_skip (x_seq (csr ?_))
 refine r_mv z (r_bin z z (bI_mul 2 a0) (r_bin z z (bI_add _ 1) ?_))
 obtain ⟨r2,hr2,hm6⟩:=bs hm1
 refine r_sw (s_w (o_call ca128 z (CV.ok 4 _ _ hr2))) ?_
 rintro _ R _ _ ⟨⟨pv4,g5⟩,rfl,rfl,rfl⟩
 refine r_mv z ?_
 refine r_ext z z ?_
 refine r_ext z z (r_as z (r_as z ?_))
 refine nsr ?_
 refine r_mv z (r_mv z ?_)
 refine r_u (ou_if (hd_p 0 z) fun hb0=>o_bld [vI a0,vI 0,pv4] z (fun _=>by obtain ⟨_,rfl⟩:=hb0;kernel_rfl)) ?_
 refine r_new (o_bx [vI a0,vI 0,pv4] z z) fun b7 => ?_
 refine r_mv z (r_as z (r_as z ?_))
 refine r_nil (x_seq (c_ret ?_))
 refine ex_st (fun _ h=>st_some (f:=Ai.op (⟨(pv4,g5)⟩:Ai.G)) (a:=(⟨a0,0,r2.1⟩:Ai)) (st_star_f (A:=Ai.fl b7 (⟨a0,0,r2.1⟩:Ai) (⟨(pv4,g5)⟩:Ai.G)) h)) ?_
 obtain rfl:=si hm6
 exact x_r2 z (rv_t z) (rv_t z) le_ ⟨_,z,(pt b7 0,(⟨(pv4,g5)⟩:Ai.G)),z,z,z⟩
def Dg(a0:Int):Int :=
 (if 4096<(i64 (8*a0)) then 4096 else i64 (8*a0))
theorem Dg.ok{G R F}(a0:Int)(r:Int)(hm:Dg a0=r):CO Tryz.prog 130 [vI a0] G R (F)
  (Ret fun u R' L'=>u=vI r∧R'=R∧L'=F):=by
 unfold Dg at hm
 refine co_ofN (N:=6) Tryz.func130 z z ?_
 refine csr ?_
 refine r_as z ?_
 refine nsr ?_
 refine r_mv z (r_bin z z (bI_mul 8 a0) ?_)
 refine r_u (o_minI z z) (r_as z ?_)
 refine r_nil (x_seq (c_ret ?_))
 subst hm
 exact x_r1 z (rv_t z) le_ ⟨_,z,z,z,z⟩
def Cg(a0:Int):Nat→Int→(List (List UInt8))→Option (List (List UInt8))
 | 0,_,_=>none
 | k14+1,s_11,c_12=>if decide (s_11<4) then (mks 1 a0 (0:UInt8)).bind fun l20=>(gi c_12 s_11).bind fun y22=>Cg a0 k14 (i64 (s_11+1)) (ls c_12 s_11 l20) else some c_12
def CM(a0:Int)(a1:UInt64):Option (Option Ae×Int) :=
 if (decide (a0<1)||decide (4096<a0)) then some (none,1) else (mks 1 a0 (false:Bool)).bind fun l3=>Option.bind (Cg a0 5 0 [[],[],[],[]]) fun p6=>some ((some (⟨a0,a1,p6,l3,0⟩:Ae)),0)
theorem CM.ok{G R F}(a0:Int)(a1:UInt64)(r:Option Ae×Int)(hm:CM a0 a1=some r):CO Tryz.prog 129 [vI a0,vW a1] G R (F)
  (Ret fun u R' L'=>∃(p0:Value×Ae.G),u = .tuple #[p0.1,vI r.2]∧R'=R∧L'=rO (Ae.op p0.2) p0.1 r.1::F):=by
 unfold CM at hm
 refine co_ofN (N:=32) Tryz.func129 z z ?_
 refine csr ?_
 refine r_as z (r_as z ?_)
 refine nssr ?_
 refine r_mv z (r_bin z z (bI_lt a0 1) (r_mv z ?_))
 refine r_s (s_gf z z fun g=>o_mv z) ?_
 refine r_s (s_gf z z fun g=>o_bin (evg z g) z (bI_gt a0 4096)) ?_
 refine r_u (o_or z z) ?_
 refine nsq ?_
 refine c_if (b:=(decide (a0<1)||decide (4096<a0))) z (fun h0 => ?_) fun h0 => ?_
 ·have hm1:=ift hm h0
  refine csr ?_
  refine r_as z (r_as z ?_)
  refine r_nil (x_seq (c_ret ?_))
  refine ex_st (fun _ h=>st_none (f:=Ae.op default) h) ?_
  obtain rfl:=si hm1
  exact x_r2 z (rv_t z) (rv_t z) le_ ⟨_,z,(nl,default),z,z,z⟩
 have hm1:=iff_ hm h0
 refine c_skip (x_seq (csr ?_))
 refine r_mv z (r_mv z (r_mv z ?_))
 obtain ⟨l3,hl3,hm4⟩:=bs hm1
 refine r_sw (s_w (o_mk (sz:=1) (bytes:=1) (e:=4) (en:=eB) Tryz.underlying68 z z z z z z z z z hl3)) ?_
 rintro v2 R _ _ ⟨rfl,rfl⟩
 refine r_u (ou_if (hd_o 0 z) fun hb0=>o_bld [vI a0,vW a1,.slice none 0 0,.slice none 0 0,.slice none 0 0,.slice none 0 0,v2,vI 0] z (fun _=>by obtain ⟨_,_,rfl⟩:=hb0;kernel_rfl)) ?_
 refine r_new (o_bx [vI a0,vW a1,.slice none 0 0,.slice none 0 0,.slice none 0 0,.slice none 0 0,v2,vI 0] z z) fun b5 => ?_
 refine r_as z ?_
 refine nssr ?_
 refine r_mv z ?_
 refine nsq ?_
 obtain ⟨p6,hp8,hm9⟩:=bs hm4
 refine cd_cut (fun x ks=>∀(g7:Value×Value×Value×Value),EX x .normal ks [(6,pt b5 0)] R (Bk b5 250 [vI a0,vW a1,g7.1,g7.2.1,g7.2.2.1,g7.2.2.2,v2,vI 0]::OwS true 4 1 eB v2 l3::OwL (OwS false 5 1 eY) [g7.1,g7.2.1,g7.2.2.1,g7.2.2.2] p6::F)) ?_ fun K10 => ?_
 ·intro g7
  refine x_seq (csr ?_)
  refine r_mv z (r_as z (r_as z ?_))
  refine r_nil (x_seq (c_ret ?_))
  refine ex_st (fun _ h=>mv2 (mv2 (mv1 h))) ?_
  refine ex_st (fun _ h=>st_some (f:=Ae.op (⟨g7,v2⟩:Ae.G)) (a:=(⟨a0,a1,p6,l3,0⟩:Ae)) (st_star_f (A:=Ae.fl b5 (⟨a0,a1,p6,l3,0⟩:Ae) (⟨g7,v2⟩:Ae.G)) h)) ?_
  obtain rfl:=si hm9
  exact x_r2 z (rv_t z) (rv_t z) le_ ⟨_,z,(pt b5 0,(⟨g7,v2⟩:Ae.G)),z,z,z⟩
 refine c_blk ?_
 refine cd_st (fun _ h=>st_lnil4 (own:=OwS false 5 1 eY) (fun _=>OwS.nil) h) ?_
 refine cd_loopG (M:=fun k14 (s:Int×List (List UInt8)×(Value×Value×Value×Value))=>Cg a0 k14 s.1 s.2.1=some p6) (Ef:=fun (s:Int×List (List UInt8)×(Value×Value×Value×Value))=>[(0,vI a0),(6,pt b5 0),(20,vI s.1)]) (Rf:=fun (s:Int×List (List UInt8)×(Value×Value×Value×Value))=>R) (Lf:=fun (s:Int×List (List UInt8)×(Value×Value×Value×Value))=>Bk b5 250 [vI a0,vW a1,s.2.2.1,s.2.2.2.1,s.2.2.2.2.1,s.2.2.2.2.2,v2,vI 0]::OwS true 4 1 eB v2 l3::OwL (OwS false 5 1 eY) [s.2.2.1,s.2.2.2.1,s.2.2.2.2.1,s.2.2.2.2.2] s.2.1::F) 5 (0,[[],[],[],[]],(.slice none 0 0,.slice none 0 0,.slice none 0 0,.slice none 0 0)) hp8 ⟨z,z,z,trivial⟩ (pk 3 [1,2,0]) (fun _ h=>by cases h) fun k14 s hM16 => ?_
 obtain ⟨s_11,c_12,g13⟩:=s
 have hm15:Cg a0 (k14+1) s_11 c_12=some p6:=hM16
 rw [Cg] at hm15
 refine csr ?_
 refine r_bin z z (bI_lt _ 4) ?_
 refine r_nil (x_seq (c_seq ?_))
 refine c_if (b:=decide (s_11<4)) z (fun h17 => ?_) fun h17 => ?_
 rotate_left
 ·have hm18:=iff_ hm15 h17
  refine c_exit (x_exit (ks':=_) z ?_)
  obtain rfl:=si hm18
  exact x_sub (K10 g13) ⟨z,trivial⟩ (pk 3 [0,1,2])
 have hm18:=ift hm15 h17
 refine c_skip (x_seq (c_seq (c_blk (csr ?_))))
 refine r_mv z (r_as z ?_)
 refine nsq ?_
 obtain ⟨l20,hl20,hm21⟩:=bs hm18
 obtain ⟨y22,hy22,hm24⟩:=bs hm21
 refine cd_ex (fun w h=>st_peek 2 hy22 z w h) fun u23 hu23 => ?_
 refine c_any mixed (effs:=[3,7]) (V:=[]) ?_
 refine stn mk5_ [0,1,2,4,5] [3] [_,_,_,_,_] (q_mv z z z (q_mv z z z (q_mv z z z (q_u z z (o_nc z) (q_fa z z fa250_2 z qn))))) ?_ (nxt z)
 refine ec (eo_w z (s_w (o_mk (sz:=1) (bytes:=1) (e:=5) (en:=eY) Tryz.underlying131 z z z z z z z z z hl20)) ?_) en
 rintro v19 R _ _ ⟨rfl,rfl⟩
 refine stage_st (fun _ h=>st_weak h) ?_
 refine stage_st (fun _ h=>mv2 (mv3 h)) ?_
 refine stx [6] mk5_ [0,1,4,5,6] [7] [_] (q_mv z z z (q_mv z z z (q_u z z (o_nc z) (q_fa z z fa250_2 z (q_u z z (o_ixA (sz:=1) Tryz.underlying248 (fun _=>by kernel_rfl) z z (gi_some hu23).1) qn))))) ?_ (nxt z)
 refine ec (eo_w z (s_w (ow_if (one_o 2 z) fun ho=>o_stA4 (A:=[vI a0,vW a1]) (B:=[v2,vI 0]) hy22 hu23 sc131 z z z ho)) ?_) en
 rintro _ R _ _ ⟨p25,p26,p27,p28,rfl,rfl,rfl⟩
 refine stage z z z z mk5_ [] [] z z z qn en ?_
 intro _
 refine ex_sub (E':=[(0,vI a0),(6,pt b5 0),(20,vI s_11)]) ⟨z,z,z,trivial⟩ ?_
 refine x_blk (x_seq (c_reg ?_))
 refine r_bin z z (bI_add _ 1) (r_mv z ?_)
 refine r_nil ?_
 exact x_lp (i64 (s_11+1),ls c_12 s_11 l20,(p25,p26,p27,p28)) hm24 ⟨z,z,z,trivial⟩ (pk 3 [0,2,1])
def DB(a0:Int)(a1:UInt64):Option (Option Af×Int) :=
 if (decide (a0<1)||decide (1000<a0)) then some (none,1) else (CM (Dg a0) a1).bind fun r2=>(CV 3 (i64 (a0+1))).bind fun r7=>some ((some (⟨a0,r2.1,r7.1⟩:Af)),r7.2)
theorem DB.ok{G R F}(a0:Int)(a1:UInt64)(r:Option Af×Int)(hm:DB a0 a1=some r):CO Tryz.prog 76 [vI a0,vW a1] G R (F)
  (Ret fun u R' L'=>∃(p0:Value×Af.G),u = .tuple #[p0.1,vI r.2]∧R'=R∧L'=rO (Af.op p0.2) p0.1 r.1::F):=by
 unfold DB at hm
 refine co_ofN (N:=35) Tryz.func76 z z ?_
 refine csr ?_
 refine r_as z (r_as z ?_)
 refine nssr ?_
 refine r_mv z (r_bin z z (bI_lt a0 1) (r_mv z ?_))
 refine r_s (s_gf z z fun g=>o_mv z) ?_
 refine r_s (s_gf z z fun g=>o_bin (evg z g) z (bI_gt a0 1000)) ?_
 refine r_u (o_or z z) ?_
 refine nsq ?_
 refine c_if (b:=(decide (a0<1)||decide (1000<a0))) z (fun h0 => ?_) fun h0 => ?_
 ·have hm1:=ift hm h0
  refine csr ?_
  refine r_as z (r_as z ?_)
  refine r_nil (x_seq (c_ret ?_))
  refine ex_st (fun _ h=>st_none (f:=Af.op default) h) ?_
  obtain rfl:=si hm1
  exact x_r2 z (rv_t z) (rv_t z) le_ ⟨_,z,(nl,default),z,z,z⟩
 have hm1:=iff_ hm h0
 refine c_skip (x_seq (csr ?_))
 refine r_mv z ?_
 refine r_u (o_callq ca130 z (Dg.ok a0 _ z)) (r_mv z ?_)
 obtain ⟨r2,hr2,hm6⟩:=bs hm1
 refine r_sw (s_w (o_call ca129 z (CM.ok _ a1 _ hr2))) ?_
 rintro _ R _ _ ⟨⟨pv4,g5⟩,rfl,rfl,rfl⟩
 refine r_mv z ?_
 refine r_ext z z ?_
 refine r_ext z z (r_as z (r_as z ?_))
 refine nsr ?_
 refine r_mv z (r_bin z z (bI_add a0 1) ?_)
 obtain ⟨r7,hr7,hm11⟩:=bs hm6
 refine r_sw (s_w (o_call ca128 z (CV.ok 3 _ _ hr7))) ?_
 rintro _ R _ _ ⟨⟨pv9,g10⟩,rfl,rfl,rfl⟩
 refine r_mv z ?_
 refine r_ext z z ?_
 refine r_ext z z (r_as z (r_as z ?_))
 refine nsr ?_
 refine r_mv z (r_mv z (r_mv z ?_))
 refine r_u (ou_if (hd_p 1 z) fun hb0=>ou_if (hd_p 0 z) fun hb1=>o_bld [vI a0,pv4,pv9] z (fun _=>by obtain ⟨_,rfl⟩:=hb0;obtain ⟨_,rfl⟩:=hb1;kernel_rfl)) ?_
 refine r_new (o_bx [vI a0,pv4,pv9] z z) fun b12 => ?_
 refine r_mv z (r_as z (r_as z ?_))
 refine r_nil (x_seq (c_ret ?_))
 refine ex_st (fun _ h=>mv2 (mv2 (mv1 h))) ?_
 refine ex_st (fun _ h=>st_some (f:=Af.op (⟨(pv4,g5),(pv9,g10)⟩:Af.G)) (a:=(⟨a0,r2.1,r7.1⟩:Af)) (st_star_f (A:=Af.fl b12 (⟨a0,r2.1,r7.1⟩:Af) (⟨(pv4,g5),(pv9,g10)⟩:Af.G)) h)) ?_
 obtain rfl:=si hm11
 exact x_r2 z (rv_t z) (rv_t z) le_ ⟨_,z,(pt b12 0,(⟨(pv4,g5),(pv9,g10)⟩:Af.G)),z,z,z⟩
def Ci(a0:Int)(a1:Int)(a2:UInt64):Option (Option Ac×Int) :=
 Option.bind (if (a0==1) then (DD a1).bind fun r15=>some (r15.2,r15.1,none) else Option.bind (if (a0==2) then (DB a1 a2).bind fun r29=>some (r29.2,r29.1) else some (1,none)) fun p20=>some (p20.1,none,p20.2)) fun p1=>if (p1.1 != 0) then some (none,p1.1) else some ((some (⟨a0,p1.2.1,p1.2.2⟩:Ac)),0)
theorem Ci.ok{G R F}(a0:Int)(a1:Int)(a2:UInt64)(r:Option Ac×Int)(hm:Ci a0 a1 a2=some r):CO Tryz.prog 41 [vI a0,vI a1,vW a2] G R (F)
  (Ret fun u R' L'=>∃(p0:Value×Ac.G),u = .tuple #[p0.1,vI r.2]∧R'=R∧L'=rO (Ac.op p0.2) p0.1 r.1::F):=by
 unfold Ci at hm
 refine co_ofN (N:=39) Tryz.func41 z z ?_
 refine csr ?_
 refine r_as z (r_as z ?_)
 refine nsr ?_
 refine r_mv z ?_
 refine r_u (o_bld [vI a0,nl,nl] z (fun _=>by kernel_rfl)) ?_
 refine r_new (o_bx [vI a0,nl,nl] z z) fun b0 => ?_
 refine r_as z (r_as z ?_)
 refine nssr ?_
 refine r_mv z ?_
 refine r_nil (x_seq (c_blk (csr ?_)))
 refine r_bin z z (bI_eq a0 1) (r_as z ?_)
 refine nsq ?_
 obtain ⟨p1,hp8,hm9⟩:=bs hm
 refine cd_cut (fun x ks=>∀(pv2:Value×Ai.G),∀(pv5:Value×Af.G),EX x .normal ks [(8,pt b0 0),(9,vI p1.1)] R (Bk b0 144 [vI a0,pv2.1,pv5.1]::rO (Ai.op pv2.2) pv2.1 p1.2.1::rO (Af.op pv5.2) pv5.1 p1.2.2::F)) ?_ fun K10 => ?_
 ·intro pv2 pv5
  obtain ⟨pv3,g4⟩:=pv2
  obtain ⟨pv6,g7⟩:=pv5
  refine x_blk (x_seq (c_seq (csr ?_)))
  refine r_mv z (r_bin z z (bI_ne _ 0) ?_)
  refine nsq ?_
  refine c_if (b:=(p1.1 != 0)) z (fun h11 => ?_) fun h11 => ?_
  ·have hm12:=ift hm9 h11
   refine csr ?_
   refine r_mv z (r_as z (r_as z ?_))
   refine r_nil (x_seq (c_ret ?_))
   refine ex_st (fun _ h=>st_none (f:=Ac.op default) h) ?_
   obtain rfl:=si hm12
   refine ex_st (pk 4 [0]) ?_
   exact x_r2 z (rv_t z) (rv_t z) le_ ⟨_,z,(nl,default),z,z,z⟩
  have hm12:=iff_ hm9 h11
  refine c_skip (x_seq (csr ?_))
  refine r_mv z (r_as z (r_as z ?_))
  refine r_nil (x_seq (c_ret ?_))
  refine ex_st (fun _ h=>st_some (f:=Ac.op (⟨(pv3,g4),(pv6,g7)⟩:Ac.G)) (a:=(⟨a0,p1.2.1,p1.2.2⟩:Ac)) (st_star_f (A:=Ac.fl b0 (⟨a0,p1.2.1,p1.2.2⟩:Ac) (⟨(pv3,g4),(pv6,g7)⟩:Ac.G)) h)) ?_
  obtain rfl:=si hm12
  exact x_r2 z (rv_t z) (rv_t z) le_ ⟨_,z,(pt b0 0,(⟨(pv3,g4),(pv6,g7)⟩:Ac.G)),z,z,z⟩
 refine c_if (b:=(a0==1)) z (fun h13 => ?_) fun h13 => ?_
 ·have hm14:=ift hp8 h13
  refine c_reg ?_
  refine r_mv z (r_mv z ?_)
  obtain ⟨r15,hr15,hm19⟩:=bs hm14
  refine r_sw (s_w (o_call ca75 z (DD.ok a1 _ hr15))) ?_
  rintro _ R _ _ ⟨⟨pv17,g18⟩,rfl,rfl,rfl⟩
  refine r_mv z ?_
  refine r_ext z z ?_
  refine r_ext z z (r_nc z (r_fa fa144_1 z ?_))
  refine rl_st (fun _ h=>mv1 h) ?_
  refine r_u0 (ou_if (one_p 1 z) fun ho0=>o_st sc141 z z z ho0 z z) ?_
  refine r_as z ?_
  refine r_nil ?_
  refine ex_st (fun _ h=>st_none (f:=Af.op default) h) ?_
  obtain rfl:=si hm19
  exact x_sub (K10 (pv17,g18) (nl,default)) ⟨z,z,trivial⟩ (pk 3 [1,2,0])
 have hm14:=iff_ hp8 h13
 refine csr ?_
 refine r_bin z z (bI_eq a0 2) (r_as z ?_)
 refine nsq ?_
 obtain ⟨p20,hp24,hm25⟩:=bs hm14
 refine cd_cut (fun x ks=>∀(pv21:Value×Af.G),EX x .normal ks [(8,pt b0 0),(9,vI p20.1)] R (Bk b0 144 [vI a0,nl,pv21.1]::rO (Af.op pv21.2) pv21.1 p20.2::F)) ?_ fun K26 => ?_
 ·intro pv21
  obtain ⟨pv22,g23⟩:=pv21
  refine ex_st (fun _ h=>st_none (f:=Ai.op default) h) ?_
  obtain rfl:=si hm25
  exact x_sub (K10 (nl,default) (pv22,g23)) ⟨z,z,trivial⟩ (pk 3 [1,0,2])
 refine c_if (b:=(a0==2)) z (fun h27 => ?_) fun h27 => ?_
 rotate_left
 ·have hm28:=iff_ hp24 h27
  refine c_skip ?_
  refine ex_st (fun _ h=>st_none (f:=Af.op default) h) ?_
  obtain rfl:=si hm28
  exact x_sub (K26 (nl,default)) ⟨z,z,trivial⟩ (pk 2 [1,0])
 have hm28:=ift hp24 h27
 refine c_reg ?_
 refine r_mv z (r_mv z (r_mv z ?_))
 obtain ⟨r29,hr29,hm33⟩:=bs hm28
 refine r_sw (s_w (o_call ca76 z (DB.ok a1 a2 _ hr29))) ?_
 rintro _ R _ _ ⟨⟨pv31,g32⟩,rfl,rfl,rfl⟩
 refine r_mv z ?_
 refine r_ext z z ?_
 refine r_ext z z (r_nc z (r_fa fa144_2 z ?_))
 refine rl_st (fun _ h=>mv1 h) ?_
 refine r_u0 (ou_if (one_p 1 z) fun ho0=>o_st sc142 z z z ho0 z z) ?_
 refine r_as z ?_
 refine r_nil ?_
 obtain rfl:=si hm33
 exact x_sub (K26 (pv31,g32)) ⟨z,z,trivial⟩ (pk 2 [0,1])
def Dl : Option Ah :=
 (some (⟨[],0⟩:Ah))
theorem Dl.ok{G R F}(r:Option Ah)(hm:Dl=r):CO Tryz.prog 42 [] G R (F)
  (Ret fun u R' L'=>∃(p0:Value×Ah.G),u=p0.1∧R'=R∧L'=rO (Ah.op p0.2) p0.1 r::F):=by
 unfold Dl at hm
 refine co_ofN (N:=4) Tryz.func42 z z ?_
 refine csr ?_
 refine r_as z ?_
 refine nsr ?_
 refine r_sw (s_w (o_mm (kv:=vS) (vv:=Ak.v))) ?_
 rintro v0 R _ _ ⟨rfl,rfl⟩
 refine r_u (ou_if (hd_m 0 z) fun hb0=>o_bld [v0,vI 0] z (fun _=>by obtain ⟨_,rfl⟩:=hb0;kernel_rfl)) ?_
 refine r_new (o_bx [v0,vI 0] z z) fun b1 => ?_
 refine r_as z ?_
 refine r_nil (x_seq (c_ret ?_))
 refine ex_st (fun _ h=>st_some (f:=Ah.op (⟨v0⟩:Ah.G)) (a:=(⟨[],0⟩:Ah)) (st_star_f (A:=Ah.fl b1 (⟨[],0⟩:Ah) (⟨v0⟩:Ah.G)) h)) ?_
 subst hm
 exact x_r1 z (rv_t z) le_ ⟨_,z,(pt b1 0,(⟨v0⟩:Ah.G)),z,z,z⟩
def CR(a0:Av):Option (Option Ad×Int) :=
 if !(BP a0) then some (none,1) else (Ci a0.Policy a0.Entries a0.Seed).bind fun r3=>lt (Dl) fun r8=>some ((some (⟨a0,r8,r3.1,[],0,0,0,(⟨0,0⟩:BJ)⟩:Ad)),r3.2)
theorem CR.ok{G R F}(a0:Av)(r:Option Ad×Int)(hm:CR a0=some r):CO Tryz.prog 19 [.agg (Av.c a0).toArray] G R (F)
  (Ret fun u R' L'=>∃(p0:Value×Ad.G),u = .tuple #[p0.1,vI r.2]∧R'=R∧L'=rO (Ad.op p0.2) p0.1 r.1::F):=by
 unfold CR at hm
 refine co_ofN (N:=26) Tryz.func19 z z ?_
 refine csr ?_
 refine r_new (o_bx (Av.c a0) z z) fun b0 => ?_
 refine r_as z (r_as z ?_)
 refine nssr ?_
 refine r_u (o_ldn 0 (Av.c a0) ag24 z z z z) ?_
 refine r_u (o_callq ca29 z (BP.ok a0 _ z)) ?_
 refine r_u (o_not z) ?_
 refine nsq ?_
 refine c_if (b := !(BP a0)) z (fun h1 => ?_) fun h1 => ?_
 ·have hm2:=ift hm h1
  refine csr ?_
  refine r_as z (r_as z ?_)
  refine r_nil (x_seq (c_ret ?_))
  refine ex_st (fun _ h=>st_none (f:=Ad.op default) h) ?_
  obtain rfl:=si hm2
  refine ex_st (pk 2 [0]) ?_
  exact x_r2 z (rv_t z) (rv_t z) le_ ⟨_,z,(nl,default),z,z,z⟩
 have hm2:=iff_ hm h1
 refine c_skip (x_seq (csr ?_))
 refine r_fa fa24_0 z (r_ld 0 sc3 z z z (r_fa fa24_1 z (r_ld 0 sc3 z z z (r_fa fa24_3 z (r_ld 0 sc22 z z z ?_)))))
 obtain ⟨r3,hr3,hm7⟩:=bs hm2
 refine r_sw (s_w (o_call ca41 z (Ci.ok _ _ _ _ hr3))) ?_
 rintro _ R _ _ ⟨⟨pv5,g6⟩,rfl,rfl,rfl⟩
 refine r_mv z ?_
 refine r_ext z z ?_
 refine r_ext z z (r_as z (r_as z ?_))
 refine r_nil (x_seq (c_seq ?_))
 obtain ⟨r8,hr8,hm12⟩:=ltx hm7
 refine c_any mixed (effs:=[1,3,5]) (V:=[]) ?_
 refine stn mk1_ [0,2,6] [1,3] [_,_,_] (q_u z z (o_ldn 1 (Av.c a0) ag24 z z z z) (q_mv z z z (q_mv z z z qn))) ?_ (nxt z)
 refine ec (eo_w z (s_w (o_call ca42 z (Dl.ok _ hr8))) ?_) (ec (eo_w z (s_w (o_mm (kv:=vW) (vv:=Ap.v))) ?_) en)
 ·rintro pv10 R _ _ ⟨⟨_,g11⟩,rfl,rfl,rfl⟩
  refine stage z z z z mk1_ [0,2,6] [3] z z z (q_u z z (o_ldn 2 (Av.c a0) ag24 z z z z) (q_mv z z z (q_mv z z z qn))) ?_ (nxt z)
  refine ec (eo_w z (s_w (o_mm (kv:=vW) (vv:=Ap.v))) ?_) en
  rintro v13 R _ _ ⟨rfl,rfl⟩
  refine stx [4] mk1_ [0,2,4,6] [5] [_] (q_u z z (o_ldn 3 (Av.c a0) ag24 z z z z) (q_mv z z z (q_u z z (ou_if (hd_p 1 z) fun hb0=>ou_if (hd_p 2 z) fun hb1=>ou_if (hd_m 0 z) fun hb2=>o_bld [vI a0.Policy,vI a0.Entries,vI a0.Bytes,vW a0.Seed,pv10,pv5,v13,vW 0,vW 0,vW 0,vI 0,vI 0] z (fun _=>by obtain ⟨_,rfl⟩:=hb0;obtain ⟨_,rfl⟩:=hb1;obtain ⟨_,rfl⟩:=hb2;kernel_rfl)) (q_mv z z z qn)))) ?_ (nxt z)
  refine ec (eo_n z (s_w (o_bx [vI a0.Policy,vI a0.Entries,vI a0.Bytes,vW a0.Seed,pv10,pv5,v13,vW 0,vW 0,vW 0,vI 0,vI 0] z z)) fun b14 => ?_) en
  refine stx [7,8] mk1_ [6,7,8] [] [_,_] (q_mv z z z (q_u z z (o_as z) (q_u z z (o_as z) qn))) en ?_
  intro _
  refine ex_sub (E':=[(2,pt b14 0),(3,vI r3.2)]) ⟨z,z,trivial⟩ ?_
  refine x_seq (c_ret ?_)
  refine ex_st (fun _ h=>mv3 (mv3 (mv3 (mv1 h)))) ?_
  refine ex_st (fun _ h=>st_some (f:=Ad.op (⟨(pv10,g11),(pv5,g6),v13⟩:Ad.G)) (a:=(⟨a0,r8,r3.1,[],0,0,0,(⟨0,0⟩:BJ)⟩:Ad)) (st_star_f (A:=Ad.fl b14 (⟨a0,r8,r3.1,[],0,0,0,(⟨0,0⟩:BJ)⟩:Ad) (⟨(pv10,g11),(pv5,g6),v13⟩:Ad.G)) h)) ?_
  obtain rfl:=si hm12
  refine ex_st (pk 2 [0]) ?_
  exact x_r2 z (rv_t z) (rv_t z) le_ ⟨_,z,(pt b14 0,(⟨(pv10,g11),(pv5,g6),v13⟩:Ad.G)),z,z,z⟩
 rintro v13 R _ _ ⟨rfl,rfl⟩
 refine stage z z z z mk1_ [0,2,6] [1] z z z (q_u z z (o_ldn 2 (Av.c a0) ag24 z z z z) (q_mv z z z (q_mv z z z qn))) ?_ (nxt z)
 refine ec (eo_w z (s_w (o_call ca42 z (Dl.ok _ hr8))) ?_) en
 rintro pv10 R _ _ ⟨⟨_,g11⟩,rfl,rfl,rfl⟩
 refine stx [4] mk1_ [0,2,4,6] [5] [_] (q_u z z (o_ldn 3 (Av.c a0) ag24 z z z z) (q_mv z z z (q_u z z (ou_if (hd_p 0 z) fun hb0=>ou_if (hd_p 2 z) fun hb1=>ou_if (hd_m 1 z) fun hb2=>o_bld [vI a0.Policy,vI a0.Entries,vI a0.Bytes,vW a0.Seed,pv10,pv5,v13,vW 0,vW 0,vW 0,vI 0,vI 0] z (fun _=>by obtain ⟨_,rfl⟩:=hb0;obtain ⟨_,rfl⟩:=hb1;obtain ⟨_,rfl⟩:=hb2;kernel_rfl)) (q_mv z z z qn)))) ?_ (nxt z)
 refine ec (eo_n z (s_w (o_bx [vI a0.Policy,vI a0.Entries,vI a0.Bytes,vW a0.Seed,pv10,pv5,v13,vW 0,vW 0,vW 0,vI 0,vI 0] z z)) fun b14 => ?_) en
 refine stx [7,8] mk1_ [6,7,8] [] [_,_] (q_mv z z z (q_u z z (o_as z) (q_u z z (o_as z) qn))) en ?_
 intro _
 refine ex_sub (E':=[(2,pt b14 0),(3,vI r3.2)]) ⟨z,z,trivial⟩ ?_
 refine x_seq (c_ret ?_)
 refine ex_st (fun _ h=>mv3 (mv3 (mv3 (mv2 h)))) ?_
 refine ex_st (fun _ h=>st_some (f:=Ad.op (⟨(pv10,g11),(pv5,g6),v13⟩:Ad.G)) (a:=(⟨a0,r8,r3.1,[],0,0,0,(⟨0,0⟩:BJ)⟩:Ad)) (st_star_f (A:=Ad.fl b14 (⟨a0,r8,r3.1,[],0,0,0,(⟨0,0⟩:BJ)⟩:Ad) (⟨(pv10,g11),(pv5,g6),v13⟩:Ad.G)) h)) ?_
 obtain rfl:=si hm12
 refine ex_st (pk 2 [0]) ?_
 exact x_r2 z (rv_t z) (rv_t z) le_ ⟨_,z,(pt b14 0,(⟨(pv10,g11),(pv5,g6),v13⟩:Ad.G)),z,z,z⟩
def AU(a0:Ad):UInt64 :=
 a0.seq
theorem AU.ok{G R F}(b0_:Nat)(a0:Ad)(g0_:Ad.G)(r:UInt64)(hm:AU a0=r):CO Tryz.prog 14 [pt b0_ 0] G R (Bk b0_ 96 (Ad.k a0 g0_)::rO (Ah.op g0_.t.2) g0_.t.1 a0.t::rO (Ac.op g0_.p.2) g0_.p.1 a0.p::OwM vW Ap.v g0_.sessions a0.sessions::F)
  (Ret fun u R' L'=>u=vW r∧R'=R∧L'=Bk b0_ 96 (Ad.k a0 g0_)::rO (Ah.op g0_.t.2) g0_.t.1 a0.t::rO (Ac.op g0_.p.2) g0_.p.1 a0.p::OwM vW Ap.v g0_.sessions a0.sessions::F):=by
 obtain ⟨⟨pv1,g2⟩,⟨pv4,g5⟩,g6⟩:=g0_
 unfold AU at hm
 refine co_ofN (N:=9) Tryz.func14 z z ?_
 refine csr ?_
 refine r_as z ?_
 refine nssr ?_
 refine r_mv z (r_bin z z (bP_eqp Tryz.underlying30) ?_)
 refine nsq ?_
 refine c_ff z ?_
 refine c_skip (x_seq (csr ?_))
 refine r_mv z (r_nc z (r_fa fa96_4 z (r_ld 0 sc22 z z z (r_as z ?_))))
 refine r_nil (x_seq (c_ret ?_))
 subst hm
 exact x_r1 z (rv_t z) le_ ⟨_,z,z,z,z⟩
def Bj(a0:UInt64)(a1:UInt64)(a2:Az):Option (AM×UInt64) :=
 Option.bind (if decide (70<(a2.Op.Key.length:Int)) then (sl a2.Op.Key 0 70).bind fun s23=>some s23 else some a2.Op.Key) fun p3=>Option.bind (if decide (1200<(a2.Op.Value.length:Int)) then (sl a2.Op.Value 0 1200).bind fun s19=>some s19 else some a2.Op.Value) fun p7=>Option.bind (if decide (a2.Ticks≤100) then some (a1+a2.Ticks) else some a1) fun p11=>some ((⟨(a0+1)+((toW (iand a2.Skip 3))/3),p11,a2.Session &&& 7,a2.Num &&& 31,(⟨a2.Op.Kind,p3,p7,a2.Op.TTL,a2.Op.Version⟩:AH)⟩:AM),p11)
theorem Bj.ok{G R F}(a0:UInt64)(a1:UInt64)(a2:Az)(r:AM×UInt64)(hm:Bj a0 a1 a2=some r):CO Tryz.prog 13 [vW a0,vW a1,.agg (Az.c a2).toArray] G R (F)
  (Ret fun u R' L'=>u = .tuple #[.agg (AM.c r.1).toArray,vW r.2]∧R'=R∧L'=F):=by
 unfold Bj at hm
 refine co_ofN (N:=54) Tryz.func13 z z ?_
 refine csr ?_
 refine r_new (o_bx (Az.c a2) z z) fun b0 => ?_
 refine r_new (o_al ze35) fun b1 => ?_
 refine r_as z ?_
 refine nsr ?_
 refine r_fa fa29_3 z ?_
 refine r_u (o_ldn 1 (AH.c a2.Op) ag27 z z z z) ?_
 refine r_new (o_al ze27) fun b2 => ?_
 refine r_u0 (o_stn ag27 z z z z z z z) ?_
 refine nssr ?_
 refine r_fa fa27_1 z (r_ld 0 sc9 z z z (r_u (o_lenS Tryz.underlying9 z) (r_bin z z (bI_gt _ 70) ?_)))
 refine nsq ?_
 obtain ⟨p3,hp4,hm5⟩:=bs hm
 refine cd_join (E':=[(0,vW a0),(1,vW a1),(5,pt b0 0),(6,pt b1 0),(8,pt b2 0)]) (L':=Bk b2 27 [vI a2.Op.Kind,vS p3,vS a2.Op.Value,vW a2.Op.TTL,vW a2.Op.Version]::Bk b1 35 [vW 0,vW 0,vW 0,vW 0,vI 0,vS [],vS [],vW 0,vW 0]::Bk b0 29 (Az.c a2)::F) ?_ fun K6 => ?_
 rotate_left
 ·refine c_if (b:=decide (70<(a2.Op.Key.length:Int))) z (fun h21 => ?_) fun h21 => ?_
  ·have hm22:=ift hp4 h21
   refine c_reg ?_
   refine r_fa fa27_1 z (r_ld 0 sc9 z z z ?_)
   obtain ⟨s23,hs23,hm24⟩:=bs hm22
   refine r_u (o_slS (i:=0) (j:=70) Tryz.underlying9 z z z hs23) (r_fa fa27_1 z ?_)
   refine r_u0 (o_st sc9 z z z z z z) ?_
   refine r_nil ?_
   obtain rfl:=si hm24
   exact x_sub K6 ⟨z,z,z,z,z,trivial⟩ (pk 3 [0,1,2])
  have hm22:=iff_ hp4 h21
  refine c_skip ?_
  obtain rfl:=si hm22
  exact x_sub K6 ⟨z,z,z,z,z,trivial⟩ (pk 3 [0,1,2])
 refine x_seq (c_seq (csr ?_))
 refine r_fa fa27_2 z (r_ld 0 sc9 z z z (r_u (o_lenS Tryz.underlying9 z) (r_bin z z (bI_gt _ 1200) ?_)))
 refine nsq ?_
 obtain ⟨p7,hp8,hm9⟩:=bs hm5
 refine cd_join (E':=[(0,vW a0),(1,vW a1),(5,pt b0 0),(6,pt b1 0),(8,pt b2 0)]) (L':=Bk b2 27 [vI a2.Op.Kind,vS p3,vS p7,vW a2.Op.TTL,vW a2.Op.Version]::Bk b1 35 [vW 0,vW 0,vW 0,vW 0,vI 0,vS [],vS [],vW 0,vW 0]::Bk b0 29 (Az.c a2)::F) ?_ fun K10 => ?_
 rotate_left
 ·refine c_if (b:=decide (1200<(a2.Op.Value.length:Int))) z (fun h17 => ?_) fun h17 => ?_
  ·have hm18:=ift hp8 h17
   refine c_reg ?_
   refine r_fa fa27_2 z (r_ld 0 sc9 z z z ?_)
   obtain ⟨s19,hs19,hm20⟩:=bs hm18
   refine r_u (o_slS (i:=0) (j:=1200) Tryz.underlying9 z z z hs19) (r_fa fa27_2 z ?_)
   refine r_u0 (o_st sc9 z z z z z z) ?_
   refine r_nil ?_
   obtain rfl:=si hm20
   exact x_sub K10 ⟨z,z,z,z,z,trivial⟩ (pk 3 [0,1,2])
  have hm18:=iff_ hp8 h17
  refine c_skip ?_
  obtain rfl:=si hm18
  exact x_sub K10 ⟨z,z,z,z,z,trivial⟩ (pk 3 [0,1,2])
 refine x_seq (csr ?_)
 refine r_mv z (r_as z ?_)
 refine nssr ?_
 refine r_fa fa29_0 z (r_ld 2 sc22 z z z (r_bin z z (bW_le _ 100) ?_))
 refine nsq ?_
 obtain ⟨p11,hp12,hm13⟩:=bs hm9
 refine cd_join (E':=[(0,vW a0),(5,pt b0 0),(6,pt b1 0),(8,pt b2 0),(9,vW p11)]) (L':=Bk b2 27 [vI a2.Op.Kind,vS p3,vS p7,vW a2.Op.TTL,vW a2.Op.Version]::Bk b1 35 [vW 0,vW 0,vW 0,vW 0,vI 0,vS [],vS [],vW 0,vW 0]::Bk b0 29 (Az.c a2)::F) ?_ fun K14 => ?_
 ·refine x_seq (csr ?_)
  refine r_mv z (r_bin z z (bW_add a0 1) (r_fa fa29_4 z (r_ld 2 sc3 z z z (r_bin z z (bI_and _ 3) (r_u (o_cv z (cIW Tryz.underlying3 Tryz.underlying22 (iand a2.Skip 3))) (r_bin z z (bW_quo _ 3 (by decide)) (r_bin z z (bW_add _ _) (r_mv z (r_fa fa29_1 z (r_ld 2 sc22 z z z (r_bin z z (bW_and _ 7) (r_fa fa29_2 z (r_ld 2 sc22 z z z (r_bin z z (bW_and _ 31) ?_))))))))))))))
  refine r_u (o_ldn 0 [vI a2.Op.Kind,vS p3,vS p7,vW a2.Op.TTL,vW a2.Op.Version] ag27 z z z z) ?_
  refine r_u (o_bld [vW ((a0+1)+((toW (iand a2.Skip 3))/3)),vW p11,vW (a2.Session &&& 7),vW (a2.Num &&& 31),vI a2.Op.Kind,vS p3,vS p7,vW a2.Op.TTL,vW a2.Op.Version] z (fun _=>by kernel_rfl)) (r_mv z ?_)
  refine rl_st (fun _ h=>mv1 h) ?_
  refine r_u0 (o_stn ag35 z z z z z z z) ?_
  refine r_as z ?_
  refine r_nil (x_seq (c_ret ?_))
  obtain rfl:=si hm13
  exact x_d2 z (rv_n 0 [vW ((a0+1)+((toW (iand a2.Skip 3))/3)),vW p11,vW (a2.Session &&& 7),vW (a2.Num &&& 31),vI a2.Op.Kind,vS p3,vS p7,vW a2.Op.TTL,vW a2.Op.Version] ag35 z z z z) (rv_t z) (pk 3 []) le_ ⟨_,z,z,z,z⟩
 refine c_if (b:=decide (a2.Ticks≤100)) z (fun h15 => ?_) fun h15 => ?_
 ·have hm16:=ift hp12 h15
  refine c_reg ?_
  refine r_mv z (r_fa fa29_0 z (r_ld 2 sc22 z z z (r_bin z z (bW_add a1 _) (r_as z ?_))))
  refine r_nil ?_
  obtain rfl:=si hm16
  exact x_sub K14 ⟨z,z,z,z,z,trivial⟩ (pk 3 [0,1,2])
 have hm16:=iff_ hp12 h15
 refine c_skip ?_
 obtain rfl:=si hm16
 exact x_sub K14 ⟨z,z,z,z,z,trivial⟩ (pk 3 [0,1,2])
def BQ(a0:AH):Bool :=
 if ((decide (64<(a0.Key.length:Int))||decide (4096<(a0.Value.length:Int)))||decide (1073741824<a0.TTL)) then false else lt (if (a0.Kind==1) then (a0.Kind==1) else (a0.Kind==3)) fun p3=>if p3 then ((((a0.Key != [])&&(a0.Value==[]))&&(a0.TTL==0))&&(a0.Version==0)) else if (a0.Kind==2) then ((a0.Key != [])&&(a0.Version==0)) else if (a0.Kind==4) then ((a0.Key != [])&&decide (1≤a0.Version)) else if (a0.Kind==5) then decide (a0=(⟨5,[],[],0,0⟩:AH)) else false
theorem BQ.ok{G R F}(a0:AH)(r:Bool)(hm:BQ a0=r):CO Tryz.prog 34 [.agg (AH.c a0).toArray] G R (F)
  (Ret fun u R' L'=>u=vB r∧R'=R∧L'=F):=by
 unfold BQ at hm
 refine co_ofN (N:=66) Tryz.func34 z z ?_
 refine csr ?_
 refine r_new (o_bx (AH.c a0) z z) fun b0 => ?_
 refine r_as z ?_
 refine nssr ?_
 refine r_fa fa27_1 z (r_ld 0 sc9 z z z (r_u (o_lenS Tryz.underlying9 z) (r_bin z z (bI_gt _ 64) (r_mv z ?_))))
 refine r_s (s_gf z z fun g=>o_fa fa27_2 z) ?_
 refine r_s (s_gf z z fun g=>o_ld 0 sc9 (evg z g) z z) ?_
 refine r_s (s_gf z z fun g=>o_lenS Tryz.underlying9 (evg z g)) ?_
 refine r_s (s_gf z z fun g=>o_bin (evg z g) z (bI_gt _ 4096)) ?_
 refine r_u (o_or z z) (r_mv z ?_)
 refine r_s (s_gf z z fun g=>o_fa fa27_3 z) ?_
 refine r_s (s_gf z z fun g=>o_ld 0 sc22 (evg z g) z z) ?_
 refine r_s (s_gf z z fun g=>o_bin (evg z g) z (bW_gt _ 1073741824)) ?_
 refine r_u (o_or z z) ?_
 refine nsq ?_
 refine c_if (b:=((decide (64<(a0.Key.length:Int))||decide (4096<(a0.Value.length:Int)))||decide (1073741824<a0.TTL))) z (fun h1 => ?_) fun h1 => ?_
 ·have hm2:=ift hm h1
  refine csr ?_
  refine r_as z ?_
  refine r_nil (x_seq (c_ret ?_))
  subst hm2
  refine ex_st (pk 1 []) ?_
  exact x_r1 z (rv_t z) le_ ⟨_,z,z,z,z⟩
 have hm2:=iff_ hm h1
 refine c_skip (x_seq (c_seq (csr ?_)))
 refine r_fa fa27_0 z (r_ld 0 sc3 z z z ?_)
 refine r_nil (x_seq (c_blk (c_seq (csr ?_))))
 refine r_bin z z (bI_eq _ 1) (r_as z ?_)
 refine nsq ?_
 obtain ⟨p3,hp4,hm5⟩:=ltx hm2
 refine cd_join (E':=[(1,pt b0 0),(19,vI a0.Kind),(20,vB p3)]) (L':=Bk b0 27 (AH.c a0)::F) ?_ fun K6 => ?_
 rotate_left
 ·refine c_if (b:=(a0.Kind==1)) z (fun h15 => ?_) fun h15 => ?_
  ·have hm16:=ift hp4 h15
   refine c_skip ?_
   subst hm16
   exact x_sub K6 ⟨z,z,z,trivial⟩ (pk 1 [0])
  have hm16:=iff_ hp4 h15
  refine c_reg ?_
  refine r_bin z z (bI_eq _ 3) (r_as z ?_)
  refine r_nil ?_
  subst hm16
  exact x_sub K6 ⟨z,z,z,trivial⟩ (pk 1 [0])
 refine x_seq ?_
 refine c_if (b:=p3) z (fun h7 => ?_) fun h7 => ?_
 ·have hm8:=ift hm5 h7
  refine csr ?_
  refine r_fa fa27_1 z (r_ld 0 sc9 z z z (r_bin z z (bS_ne _ []) (r_mv z ?_)))
  refine r_s (s_gt z z fun g=>o_fa fa27_2 z) ?_
  refine r_s (s_gt z z fun g=>o_ld 0 sc9 (evg z g) z z) ?_
  refine r_s (s_gt z z fun g=>o_bin (evg z g) z (bS_eq _ [])) ?_
  refine r_u (o_and z z) (r_mv z ?_)
  refine r_s (s_gt z z fun g=>o_fa fa27_3 z) ?_
  refine r_s (s_gt z z fun g=>o_ld 0 sc22 (evg z g) z z) ?_
  refine r_s (s_gt z z fun g=>o_bin (evg z g) z (bW_eq _ 0)) ?_
  refine r_u (o_and z z) (r_mv z ?_)
  refine r_s (s_gt z z fun g=>o_fa fa27_4 z) ?_
  refine r_s (s_gt z z fun g=>o_ld 0 sc22 (evg z g) z z) ?_
  refine r_s (s_gt z z fun g=>o_bin (evg z g) z (bW_eq _ 0)) ?_
  refine r_u (o_and z z) (r_as z ?_)
  refine r_nil (x_seq (c_ret ?_))
  subst hm8
  refine ex_st (pk 1 []) ?_
  exact x_r1 z (rv_t z) le_ ⟨_,z,z,z,z⟩
 have hm8:=iff_ hm5 h7
 refine csr ?_
 refine r_bin z z (bI_eq _ 2) (r_as z ?_)
 refine nsq ?_
 refine c_if (b:=(a0.Kind==2)) z (fun h9 => ?_) fun h9 => ?_
 ·have hm10:=ift hm8 h9
  refine csr ?_
  refine r_fa fa27_1 z (r_ld 0 sc9 z z z (r_bin z z (bS_ne _ []) (r_mv z ?_)))
  refine r_s (s_gt z z fun g=>o_fa fa27_4 z) ?_
  refine r_s (s_gt z z fun g=>o_ld 0 sc22 (evg z g) z z) ?_
  refine r_s (s_gt z z fun g=>o_bin (evg z g) z (bW_eq _ 0)) ?_
  refine r_u (o_and z z) (r_as z ?_)
  refine r_nil (x_seq (c_ret ?_))
  subst hm10
  refine ex_st (pk 1 []) ?_
  exact x_r1 z (rv_t z) le_ ⟨_,z,z,z,z⟩
 have hm10:=iff_ hm8 h9
 refine csr ?_
 refine r_bin z z (bI_eq _ 4) (r_as z ?_)
 refine nsq ?_
 refine c_if (b:=(a0.Kind==4)) z (fun h11 => ?_) fun h11 => ?_
 ·have hm12:=ift hm10 h11
  refine csr ?_
  refine r_fa fa27_1 z (r_ld 0 sc9 z z z (r_bin z z (bS_ne _ []) (r_mv z ?_)))
  refine r_s (s_gt z z fun g=>o_fa fa27_4 z) ?_
  refine r_s (s_gt z z fun g=>o_ld 0 sc22 (evg z g) z z) ?_
  refine r_s (s_gt z z fun g=>o_bin (evg z g) z (bW_ge _ 1)) ?_
  refine r_u (o_and z z) (r_as z ?_)
  refine r_nil (x_seq (c_ret ?_))
  subst hm12
  refine ex_st (pk 1 []) ?_
  exact x_r1 z (rv_t z) le_ ⟨_,z,z,z,z⟩
 have hm12:=iff_ hm10 h11
 refine csr ?_
 refine r_bin z z (bI_eq _ 5) (r_as z ?_)
 refine nsq ?_
 refine c_if (b:=(a0.Kind==5)) z (fun h13 => ?_) fun h13 => ?_
 ·have hm14:=ift hm12 h13
  refine csr ?_
  refine r_u (o_ldn 0 (AH.c a0) ag27 z z z z) ?_
  refine r_u (o_bld [vI 5,vS [],vS [],vW 0,vW 0] z (fun _=>by kernel_rfl)) (r_bin z z (AH.beq_27 a0 (⟨5,[],[],0,0⟩:AH)) (r_as z ?_))
  refine r_nil (x_seq (c_ret ?_))
  subst hm14
  refine ex_st (pk 1 []) ?_
  exact x_r1 z (rv_t z) le_ ⟨_,z,z,z,z⟩
 have hm14:=iff_ hm12 h13
 refine c_skip (x_blk (x_seq (csr ?_)))
 refine r_as z ?_
 refine r_nil (x_seq (c_ret ?_))
 subst hm14
 refine ex_st (pk 1 []) ?_
 exact x_r1 z (rv_t z) le_ ⟨_,z,z,z,z⟩
open Go.Shelf Go.Proofs in
def Tryz.keysL_ren:Go.Shelf.Ren:=⟨fun | 7=>74 | 10=>127 | n=>n,fun | 23=>136 | 26=>9 | 3=>50 | 28=>148 | 0=>0 | 27=>147 | 33=>100 | 4=>4 | n=>n,fun | n=>n⟩
theorem Tryz.keysL:Go.Proofs.SlLaysZ.n7 Tryz.prog Tryz.keysL_ren := {
 mixed:=by kernel_rfl
 f7:=⟨Tryz.f74.name,by decide,Tryz.func74.trans (congrArg some (by kernel_rfl))⟩
 f10:=⟨Tryz.f127.name,by decide,Tryz.func127.trans (congrArg some (by kernel_rfl))⟩
 t0:=Tryz.underlying0
 a0:=Tryz.isAgg0
 z0:=Tryz.sizeOf0
 v0:=Tryz.zeroValue0
 t4:=Tryz.underlying4
 a4:=Tryz.isAgg4
 z4:=Tryz.sizeOf4
 v4:=Tryz.zeroValue4
 t23:=Tryz.underlying136
 a23:=Tryz.isAgg136
 z23:=Tryz.sizeOf136
 v23:=Tryz.zeroValue136
 t26:=Tryz.underlying9
 a26:=Tryz.isAgg9
 z26:=Tryz.sizeOf9
 v26:=Tryz.zeroValue9
 t27:=Tryz.underlying147
 a27:=Tryz.isAgg147
 z27:=Tryz.sizeOf147
 v27:=Tryz.zeroValue147
 t28:=Tryz.underlying148
 a28:=Tryz.isAgg148
 z28:=Tryz.sizeOf148
 v28:=Tryz.zeroValue148
 t33:=Tryz.underlying100
 a33:=Tryz.isAgg100
 z33:=Tryz.sizeOf100
 v33:=Tryz.zeroValue100 }
def Tryz.sortedL_ren:Go.Shelf.Ren:=⟨fun | 6=>73 | 8=>125 | 9=>126 | 11=>171 | 13=>149 | 12=>172 | 23=>199 | 24=>200 | 14=>217 | 15=>218 | 16=>219 | 17=>220 | 18=>221 | 19=>222 | 20=>223 | 21=>224 | 22=>225 | 25=>241 | 26=>233 | 27=>234 | 28=>242 | 29=>243 | 30=>244 | 31=>250 | n=>n,fun | 26=>9 | 28=>148 | 24=>98 | 0=>0 | 3=>3 | 37=>134 | 48=>128 | 50=>22 | 4=>4 | 40=>265 | 39=>264 | 45=>231 | 5=>5 | 9=>9 | 51=>291 | 55=>294 | 57=>300 | 58=>255 | 33=>100 | n=>n,fun | n=>n⟩
theorem Tryz.sortedL:Go.Proofs.SlLaysZ.n6 Tryz.prog Tryz.sortedL_ren := {
 mixed:=by kernel_rfl
 f6:=⟨Tryz.f73.name,by decide,Tryz.func73.trans (congrArg some (by kernel_rfl))⟩
 f8:=⟨Tryz.f125.name,by decide,Tryz.func125.trans (congrArg some (by kernel_rfl))⟩
 f11:=⟨Tryz.f171.name,by decide,Tryz.func171.trans (congrArg some (by kernel_rfl))⟩
 t0:=Tryz.underlying0
 a0:=Tryz.isAgg0
 z0:=Tryz.sizeOf0
 v0:=Tryz.zeroValue0
 t24:=Tryz.underlying98
 a24:=Tryz.isAgg98
 z24:=Tryz.sizeOf98
 v24:=Tryz.zeroValue98
 t26:=Tryz.underlying9
 a26:=Tryz.isAgg9
 z26:=Tryz.sizeOf9
 v26:=Tryz.zeroValue9
 t28:=Tryz.underlying148
 a28:=Tryz.isAgg148
 z28:=Tryz.sizeOf148
 v28:=Tryz.zeroValue148
 i26:=by kernel_rfl }
def Tryz.sortL_ren:Go.Shelf.Ren:=⟨fun | 6=>126 | 8=>149 | 9=>172 | 19=>199 | 20=>200 | 21=>217 | 22=>218 | 23=>219 | 24=>220 | 25=>221 | 26=>222 | 27=>223 | 28=>224 | 29=>225 | 36=>241 | 31=>233 | 32=>234 | 37=>242 | 38=>243 | 39=>244 | 41=>250 | n=>n,fun | 27=>98 | 29=>9 | 3=>3 | 32=>134 | 26=>98 | 0=>0 | 44=>128 | 46=>22 | 4=>4 | 36=>265 | 35=>264 | 41=>231 | 5=>5 | 9=>9 | 53=>291 | 57=>294 | 63=>300 | 64=>255 | n=>n,fun | n=>n⟩
theorem Tryz.sortL:Go.Proofs.SlLaysM.n6 Tryz.prog Tryz.sortL_ren := {
 mixed:=by kernel_rfl
 f6:=⟨Tryz.f126.name,by decide,Tryz.func126.trans (congrArg some (by kernel_rfl))⟩
 f8:=Tryz.func149.trans (congrArg some (by kernel_rfl))
 f9:=⟨Tryz.f172.name,by decide,Tryz.func172.trans (congrArg some (by kernel_rfl))⟩
 f19:=Tryz.func199.trans (congrArg some (by kernel_rfl))
 f20:=Tryz.func200.trans (congrArg some (by kernel_rfl))
 f21:=⟨Tryz.f217.name,by decide,Tryz.func217.trans (congrArg some (by kernel_rfl))⟩
 f22:=⟨Tryz.f218.name,by decide,Tryz.func218.trans (congrArg some (by kernel_rfl))⟩
 f23:=⟨Tryz.f219.name,by decide,Tryz.func219.trans (congrArg some (by kernel_rfl))⟩
 f24:=⟨Tryz.f220.name,by decide,Tryz.func220.trans (congrArg some (by kernel_rfl))⟩
 f25:=⟨Tryz.f221.name,by decide,Tryz.func221.trans (congrArg some (by kernel_rfl))⟩
 f26:=⟨Tryz.f222.name,by decide,Tryz.func222.trans (congrArg some (by kernel_rfl))⟩
 f27:=⟨Tryz.f223.name,by decide,Tryz.func223.trans (congrArg some (by kernel_rfl))⟩
 f28:=⟨Tryz.f224.name,by decide,Tryz.func224.trans (congrArg some (by kernel_rfl))⟩
 f29:=⟨Tryz.f225.name,by decide,Tryz.func225.trans (congrArg some (by kernel_rfl))⟩
 f31:=Tryz.func233.trans (congrArg some (by kernel_rfl))
 f32:=Tryz.func234.trans (congrArg some (by kernel_rfl))
 f36:=⟨Tryz.f241.name,by decide,Tryz.func241.trans (congrArg some (by kernel_rfl))⟩
 f37:=⟨Tryz.f242.name,by decide,Tryz.func242.trans (congrArg some (by kernel_rfl))⟩
 f38:=⟨Tryz.f243.name,by decide,Tryz.func243.trans (congrArg some (by kernel_rfl))⟩
 f39:=⟨Tryz.f244.name,by decide,Tryz.func244.trans (congrArg some (by kernel_rfl))⟩
 f41:=⟨Tryz.f250.name,by decide,Tryz.func250.trans (congrArg some (by kernel_rfl))⟩
 t0:=Tryz.underlying0
 a0:=Tryz.isAgg0
 z0:=Tryz.sizeOf0
 v0:=Tryz.zeroValue0
 t3:=Tryz.underlying3
 a3:=Tryz.isAgg3
 z3:=Tryz.sizeOf3
 v3:=Tryz.zeroValue3
 t4:=Tryz.underlying4
 a4:=Tryz.isAgg4
 z4:=Tryz.sizeOf4
 v4:=Tryz.zeroValue4
 t5:=Tryz.underlying5
 a5:=Tryz.isAgg5
 z5:=Tryz.sizeOf5
 v5:=Tryz.zeroValue5
 t9:=Tryz.underlying9
 a9:=Tryz.isAgg9
 z9:=Tryz.sizeOf9
 v9:=Tryz.zeroValue9
 t26:=Tryz.underlying98
 a26:=Tryz.isAgg98
 z26:=Tryz.sizeOf98
 v26:=Tryz.zeroValue98
 t27:=Tryz.underlying98
 a27:=Tryz.isAgg98
 z27:=Tryz.sizeOf98
 v27:=Tryz.zeroValue98
 t29:=Tryz.underlying9
 a29:=Tryz.isAgg9
 z29:=Tryz.sizeOf9
 v29:=Tryz.zeroValue9
 t32:=Tryz.underlying134
 a32:=Tryz.isAgg134
 z32:=Tryz.sizeOf134
 v32:=Tryz.zeroValue134
 t35:=Tryz.underlying264
 a35:=Tryz.isAgg264
 z35:=Tryz.sizeOf264
 v35:=Tryz.zeroValue264
 t36:=Tryz.underlying265
 a36:=Tryz.isAgg265
 z36:=Tryz.sizeOf265
 v36:=Tryz.zeroValue265
 t41:=Tryz.underlying231
 a41:=Tryz.isAgg231
 z41:=Tryz.sizeOf231
 v41:=Tryz.zeroValue231
 t44:=Tryz.underlying128
 a44:=Tryz.isAgg128
 z44:=Tryz.sizeOf128
 v44:=Tryz.zeroValue128
 t46:=Tryz.underlying22
 a46:=Tryz.isAgg22
 z46:=Tryz.sizeOf22
 v46:=Tryz.zeroValue22
 t53:=Tryz.underlying291
 a53:=Tryz.isAgg291
 z53:=Tryz.sizeOf291
 v53:=Tryz.zeroValue291
 t57:=Tryz.underlying294
 a57:=Tryz.isAgg294
 z57:=Tryz.sizeOf294
 v57:=Tryz.zeroValue294
 t63:=Tryz.underlying300
 a63:=Tryz.isAgg300
 z63:=Tryz.sizeOf300
 v63:=Tryz.zeroValue300
 t64:=Tryz.underlying255
 a64:=Tryz.isAgg255
 z64:=Tryz.sizeOf255
 v64:=Tryz.zeroValue255 }
def Tryz.delL_ren:Go.Shelf.Ren:=⟨fun | 10=>64 | 6=>115 | n=>n,fun | 22=>98 | 23=>9 | 25=>100 | 3=>3 | 4=>4 | 0=>0 | n=>n,fun | n=>n⟩
theorem Tryz.delL:Go.Proofs.SlLaysH.n10 Tryz.prog Tryz.delL_ren := {
 mixed:=by kernel_rfl
 f6:=⟨Tryz.f115.name,by decide,Tryz.func115.trans (congrArg some (by kernel_rfl))⟩
 f10:=⟨Tryz.f64.name,by decide,Tryz.func64.trans (congrArg some (by kernel_rfl))⟩
 t0:=Tryz.underlying0
 a0:=Tryz.isAgg0
 z0:=Tryz.sizeOf0
 v0:=Tryz.zeroValue0
 t3:=Tryz.underlying3
 a3:=Tryz.isAgg3
 z3:=Tryz.sizeOf3
 v3:=Tryz.zeroValue3
 t4:=Tryz.underlying4
 a4:=Tryz.isAgg4
 z4:=Tryz.sizeOf4
 v4:=Tryz.zeroValue4
 t22:=Tryz.underlying98
 a22:=Tryz.isAgg98
 z22:=Tryz.sizeOf98
 v22:=Tryz.zeroValue98
 a23:=Tryz.isAgg9
 z23:=Tryz.sizeOf9
 t25:=Tryz.underlying100
 a25:=Tryz.isAgg100
 z25:=Tryz.sizeOf100
 v25:=Tryz.zeroValue100 }
open Go.Proofs in
theorem sortsL(m:Nat):AnyZ.SortsIn Tryz.prog Tryz.sortedL_ren Fence.wide m :=
 ⟨fun blk off cap ss W hH hblk hsz=>callsIn_wide.2 (AnyM.slices_Sort_string Tryz.sortL blk off cap ss W hH hblk hsz),fun p cap W=>callsIn_wide.2 (AnyM.slices_Sort_string_none Tryz.sortL p cap W)⟩
open Go.Proofs in
theorem mkeysL{G R}{F:List HP}{V:Type}{vv:V→Value}{v:Value}{m:List (Str×V)}: CO Tryz.prog 74 [v] G R (OwM vS vv v m::F) (Ret fun u R' L'=>∃b,u = .func (.func 127) #[] #[pt b 0]∧R'=R∧L'=Bk b 136 [v]::OwM vS vv v m::F) :=
 co_mkeys fun mb w=>AnyZ.keys_in Tryz.keysL Fence.wide 5 trivial rfl mb w
open Go.Proofs in
theorem sortedL{G R}{F:List HP}{V:Type}{vv:V→Value}{v:Value}{m:List (Str×V)}{b:Nat}{r:List Str}(hm:mkeys m=some r):CO Tryz.prog 73 [.func (.func 127) #[] #[pt b 0]] G R (Bk b 136 [v]::OwM vS vv v m::F) (Ret fun u R' L'=>R'=R∧L'=OwS true 9 1 eS u r::Bk b 136 [v]::OwM vS vv v m::F) :=
 co_sorted Tryz.underlying9 (fun b r nn D w hb hc hown h1 h2=>AnyZ.sorted_in Tryz.sortedL Fence.wide 5 trivial trivial trivial trivial rfl (by omega) (sortsL _) (enters_of Tryz.func126 (by kernel_rfl) rfl) 127 #[.pointer (some ⟨b,0,none⟩)] trivial (enters_of Tryz.func127 (by kernel_rfl) rfl) _ _ h1 h2 _
  (AnyZ.keys_gives (ρ:=Tryz.keysL_ren) { Tryz.keysL with } Fence.wide _ trivial rfl (by omega) b r nn D w hb hc hown)) hm
def Bl(a0:Ah):Option (List Str):=mkeys a0.m
theorem Bl.ok{G R F}(b0_:Nat)(a0:Ah)(g0_:Ah.G)(r:List Str)(hm:Bl a0=some r):CO Tryz.prog 39 [pt b0_ 0] G R (Bk b0_ 138 [g0_.m,vI a0.bytes]::OwM vS Ak.v g0_.m a0.m::F)
  (Ret fun u R' L'=>∃p0,u=p0∧R'=R∧L'=OwS true 9 1 eS p0 r::Bk b0_ 138 [g0_.m,vI a0.bytes]::OwM vS Ak.v g0_.m a0.m::F):=by
 unfold Bl at hm
 refine co_ofN (N:=11) Tryz.func39 rfl rfl ?_
 refine c_seq (c_reg ?_)
 refine r_u (o_as rfl) ?_
 refine r_nil (x_seq (c_seq (c_seq (c_reg ?_))))
 refine r_u (o_mv rfl) (r_u (o_bin rfl rfl (bP_eqp Tryz.underlying92)) ?_)
 refine r_nil (x_seq ?_)
 refine c_ff rfl ?_
 refine c_skip (x_seq (c_seq (c_reg ?_)))
 refine r_u (o_mv rfl) (r_u (o_nc rfl) (r_u (o_fa fa138_0 rfl) (r_u (o_ld 0 sc136 rfl rfl rfl) ?_)))
 refine rl_st (pk 2 [1,0]) ?_
 refine r_sw (s_w (o_call ca74 rfl mkeysL)) ?_
 rintro _ R _ _ ⟨b3,rfl,rfl,rfl⟩
 refine r_sw (s_w (o_call ca73 rfl (sortedL hm))) ?_
 rintro v1 R _ _ ⟨rfl,rfl⟩
 refine r_u (o_as rfl) ?_
 refine r_nil (x_seq (c_ret ?_))
 refine ex_st (pk 4 [0,3,2]) ?_
 exact x_r1 rfl (rv_t rfl) le_ ⟨_,rfl,v1,rfl,rfl,rfl⟩
def endp(m:List (Str×Ak))(now:UInt64)(x:Str):Bool:=(((mget m x).getD ((⟨[],[],0,0⟩:Ak):Ak)).End.toNat==0)||decide (now.toNat<((mget m x).getD ((⟨[],[],0,0⟩:Ak):Ak)).End.toNat)
open Go.Shelf Go.RowKit Go.Lib Go.Sort Go.Proofs in
theorem endedCloW(b1 b2 b0 r:Nat)(now e:Int)(x:List UInt8)(k0 v0:Value)(n0:Int)(W:World)(h1:W.cell? ⟨b1,0,none⟩=some (.pointer (some ⟨b0,0,none⟩)))(h2:W.cell? ⟨b2,0,none⟩=some (.int .u64 now))(h3:W.cell? ⟨b0,0,none⟩=some (.map (some r)))
  (hl:(Instr.lookup 136 (.map (some r)) (encStr x) false).run Tryz.prog W = .ok (.agg #[k0,v0,.int .u64 n0,.int .u64 e]) W) (hf:(Instr.field 50 (.agg #[k0,v0,.int .u64 n0,.int .u64 e]) 3).run Tryz.prog W = .ok (.int .u64 e) W) (p:Bool) (hp:p=(e==0||decide (now<e))) :
  FnGives Tryz.prog 65 #[.pointer (some ⟨b1,0,none⟩),.pointer (some ⟨b2,0,none⟩)] #[encStr x] (.bool p) W:=by
 show Calls Tryz.prog 65 #[encStr x,.pointer (some ⟨b1,0,none⟩),.pointer (some ⟨b2,0,none⟩)] W _
 go_enter Tryz.func65,Tryz.ntmps65
 go_wp2
 all_goals (go_ret;exact ⟨by simp_all,0,rfl⟩)
open Go.Proofs in
theorem endedClo(b1 b2 b0:Nat)(gm y:Value)(now:UInt64)(m:List (Str×Ak))(W:World)(x:Str)(h:HasL [Bk b1 92 [pt b0 0],Bk b2 22 [vW now],Bk b0 138 [gm,y],OwM vS Ak.v gm m] W):
  FnGives Tryz.prog 65 #[pt b1 0,pt b2 0] #[encStr x] (.bool (endp m now x)) W:=by
 obtain ⟨k1,p1,q1⟩:=h 0 _ rfl
 obtain ⟨k2,p2,q2⟩:=h 1 _ rfl
 obtain ⟨k0,p0,q0⟩:=h 2 _ rfl
 obtain ⟨km,⟨r,es,clock,rfl,pm,he,_⟩,qm⟩:=h 3 _ rfl
 have c1:=q1 _ _ p1
 have c2:=q2 _ _ p2
 have c0:=q0 _ _ p0
 have cm:=qm _ _ pm
 have hl:=run_lk (P:=Tryz.prog) (t:=136) (k:=9) (e:=50) Tryz.underlying136 (kok_S Tryz.underlying9) (z0:=((⟨[],[],0,0⟩:Ak):Ak)) (fun _=>by kernel_rfl) cm he x
 exact endedCloW b1 b2 b0 r now.toNat _ x _ _ _ W (by simp [World.cell?,c1,pt]) (by simp [World.cell?,c2,vW]) (by simp [World.cell?,c0]) hl (by kernel_rfl) _ (by rw [Bool.eq_iff_iff];unfold endp;simp only [Bool.or_eq_true,beq_iff_eq,decide_eq_true_eq];omega)
theorem idxNil{G R}{F:List HP}{fv:Value}: CO Tryz.prog 115 [.slice none 0 0,fv] G R F (Ret fun u R' L'=>u=vI (-1)∧R'=R∧L'=F):=by
 refine co_ofN (N:=19) Tryz.func115 rfl rfl ?_
 refine c_seq <| c_reg <| r_u (o_as rfl) <| r_nil <| x_seq <| c_seq <| c_seq <| c_reg <| r_u (o_mv rfl) <| r_u (o_lenN Tryz.underlying98 rfl) <| r_u (o_mv rfl) <| r_nil <| x_seq <| c_blk ?_
 refine cd_loop (σ:=Unit) (M:=fun k _=>k=1) (Ef:=fun _=>[(7,vI 0),(8,vI 0)]) (Lf:=fun _=>F) 1 () rfl ⟨rfl,rfl,trivial⟩ (fun _ h=>h) (fun _ h=>by cases h) ?_
 intro k s hk
 refine c_seq <| c_reg <| r_u (o_bin rfl rfl (bI_lt 0 0)) <| r_nil <| x_seq <| c_seq <| c_ff rfl ?_
 refine c_exit (x_exit (ks':=_) rfl ?_)
 refine x_seq <| c_seq <| c_reg <| r_u (o_as rfl) <| r_nil <| x_seq <| c_ret ?_
 exact x_r1 rfl (rv_t rfl) le_ ⟨_,rfl,rfl,rfl,rfl⟩
theorem delNil{G R}{F:List HP}{fv:Value}: CO Tryz.prog 64 [.slice none 0 0,fv] G R F (Ret fun u R' L'=>u = .slice none 0 0∧R'=R∧L'=F):=by
 refine co_ofN (N:=42) Tryz.func64 rfl rfl ?_
 refine c_seq <| c_reg <| r_u (o_as rfl) <| r_nil <| x_seq <| c_seq <| c_reg <| r_u (o_mv rfl) <| r_u (o_mv rfl) ?_
 refine r_c (s_w (o_call ca115 rfl idxNil)) ?_
 refine r_u (o_as rfl) <| r_nil <| x_seq <| c_seq <| c_seq <| c_reg <| r_u (o_mv rfl) <| r_u (o_bin rfl rfl (bI_eq (-1) (-1))) <| r_nil <| x_seq <| c_tt rfl ?_
 refine c_seq <| c_reg <| r_u (o_mv rfl) <| r_u (o_as rfl) <| r_nil <| x_seq <| c_ret ?_
 exact x_r1 rfl (rv_t rfl) le_ ⟨_,rfl,rfl,rfl,rfl⟩
open Go.Proofs in
theorem delC{G R}{F:List HP}{b1 b2 b0:Nat}{gm y v:Value}{now:UInt64}{m:List (Str×Ak)}{ks:List Str}:
  CO Tryz.prog 64 [v,.func (.func 65) #[] #[pt b1 0,pt b2 0]] G R (OwS true 9 1 eS v ks::Bk b1 92 [pt b0 0]::Bk b2 22 [vW now]::Bk b0 138 [gm,y]::OwM vS Ak.v gm m::F)
   (Ret fun u R' L'=>R'=R∧L'=OwS true 9 1 eS u (ks.filter fun x => !endp m now x)::Bk b1 92 [pt b0 0]::Bk b2 22 [vW now]::Bk b0 138 [gm,y]::OwM vS Ak.v gm m::F) :=
 co_del (A:=[Bk b1 92 [pt b0 0],Bk b2 22 [vW now],Bk b0 138 [gm,y],OwM vS Ak.v gm m]) (lb:=[pt b1 0,pt b2 0]) (fun W x h=>endedClo b1 b2 b0 gm y now m W x h) delNil
  fun blk off cap d w hp hpo hH h1 h2=>AnyE.slices_DeleteFunc Tryz.delL encStr (fun _=>rfl) _ 65 _ (enters_of Tryz.func65 (by kernel_rfl) rfl) [] Tryz.zeroValue9 blk off cap d w hp hpo hH h1 h2
def BF(a0:Ah)(a1:UInt64):Option (List Str):=(mkeys a0.m).bind fun l=>some (l.filter fun x => !endp a0.m a1 x)
theorem BF.ok{G R F}(b0_:Nat)(a0:Ah)(g0_:Ah.G)(a1:UInt64)(r:List Str)(hm:BF a0 a1=some r):CO Tryz.prog 35 [pt b0_ 0,vW a1] G R (Bk b0_ 138 [g0_.m,vI a0.bytes]::OwM vS Ak.v g0_.m a0.m::F)
  (Ret fun u R' L'=>∃p0,u=p0∧R'=R∧L'=OwS true 9 1 eS p0 r::Bk b0_ 138 [g0_.m,vI a0.bytes]::OwM vS Ak.v g0_.m a0.m::F):=by
 unfold BF at hm
 refine co_ofN (N:=9) Tryz.func35 rfl rfl ?_
 refine c_seq (c_reg ?_)
 refine r_new (o_bx [pt b0_ 0] rfl rfl) fun b1 => ?_
 refine r_new (o_bx [vW a1] rfl rfl) fun b2 => ?_
 refine r_u (o_as rfl) ?_
 refine r_nil (x_seq (c_seq (c_reg ?_)))
 refine r_u (o_ld 1 sc92 rfl rfl rfl) ?_
 obtain ⟨r3,hr3,hm5⟩:=bs hm
 refine rl_st (pk 4 [2,3,0,1]) ?_
 refine r_sw (s_w (o_call ca39 rfl (Bl.ok b0_ a0 g0_ r3 hr3))) ?_
 rintro v4 R _ _ ⟨_,rfl,rfl,rfl⟩
 refine r_u (o_mf (vs:=[pt b1 0,pt b2 0]) rfl) ?_
 refine rl_st (pk 5 [0,4,3,1,2]) ?_
 refine r_sw (s_w (o_call ca64 rfl delC)) ?_
 rintro v5 R _ _ ⟨rfl,rfl⟩
 refine r_u (o_as rfl) ?_
 refine r_nil (x_seq (c_ret ?_))
 obtain rfl:=si hm5
 refine ex_st (pk 5 [0,3,4]) ?_
 exact x_r1 rfl (rv_t rfl) le_ ⟨_,rfl,v5,rfl,rfl,rfl⟩
def AA(a0:Ah)(a1:Str):Ak×Bool :=
 (((mget a0.m a1).getD ((⟨[],[],0,0⟩:Ak):Ak)),(mget a0.m a1).isSome)
theorem AA.ok{G R F}(b0_:Nat)(a0:Ah)(g0_:Ah.G)(a1:Str)(r:Ak×Bool)(hm:AA a0 a1=r):CO Tryz.prog 40 [pt b0_ 0,vS a1] G R (Bk b0_ 138 [g0_.m,vI a0.bytes]::OwM vS Ak.v g0_.m a0.m::F)
  (Ret fun u R' L'=>u = .tuple #[.agg (Ak.c r.1).toArray,vB r.2]∧R'=R∧L'=Bk b0_ 138 [g0_.m,vI a0.bytes]::OwM vS Ak.v g0_.m a0.m::F):=by
 unfold AA at hm
 refine co_ofN (N:=22) Tryz.func40 z z ?_
 refine csr ?_
 refine r_new (o_al ze50) fun b1 => ?_
 refine r_as z ?_
 refine nssr ?_
 refine r_mv z (r_bin z z (bP_eqp Tryz.underlying92) ?_)
 refine nsq ?_
 refine c_ff z ?_
 refine c_skip (x_seq (csr ?_))
 refine r_mv z (r_nc z (r_fa fa138_0 z (r_ld 1 sc136 z z z (r_mv z ?_))))
 refine r_u (o_lk (kv:=vS) (vv:=Ak.v) (key:=a1) (z0:=((⟨[],[],0,0⟩:Ak):Ak)) 2 Tryz.underlying136 (kok_S Tryz.underlying9) (fun _=>by kernel_rfl) z z z) (r_mv z ?_)
 refine r_ext z z ?_
 refine r_ext z z ?_
 refine r_new (o_al ze50) fun b2 => ?_
 refine r_u0 (o_stn ag50 z z z z z z z) ?_
 refine r_as z ?_
 refine nsr ?_
 refine r_u (o_ldn 0 (Ak.c ((mget a0.m a1).getD ((⟨[],[],0,0⟩:Ak):Ak))) ag50 z z z z) (r_mv z ?_)
 refine rl_st (fun _ h=>mv1 h) ?_
 refine r_u0 (o_stn ag50 z z z z z z z) ?_
 refine r_as z ?_
 refine r_nil (x_seq (c_ret ?_))
 subst hm
 exact x_d2 z (rv_n 0 (Ak.c ((mget a0.m a1).getD ((⟨[],[],0,0⟩:Ak):Ak))) ag50 z z z z) (rv_t z) (pk 4 [2,3]) le_ ⟨_,z,z,z,z⟩
def Da(a0:Ak):Int :=
 i64 ((a0.Key.length:Int)+(a0.Value.length:Int))
theorem Da.ok{G R F}(a0:Ak)(r:Int)(hm:Da a0=r):CO Tryz.prog 66 [.agg (Ak.c a0).toArray] G R (F)
  (Ret fun u R' L'=>u=vI r∧R'=R∧L'=F):=by
 unfold Da at hm
 refine co_ofN (N:=10) Tryz.func66 z z ?_
 refine csr ?_
 refine r_new (o_bx (Ak.c a0) z z) fun b0 => ?_
 refine r_as z ?_
 refine nsr ?_
 refine r_fa fa50_0 z (r_ld 0 sc9 z z z (r_u (o_lenS Tryz.underlying9 z) (r_fa fa50_1 z (r_ld 0 sc9 z z z (r_u (o_lenS Tryz.underlying9 z) (r_bin z z (bI_add _ _) (r_as z ?_)))))))
 refine r_nil (x_seq (c_ret ?_))
 subst hm
 refine ex_st (pk 1 []) ?_
 exact x_r1 z (rv_t z) le_ ⟨_,z,z,z,z⟩
def AS(a0:Ah)(a1:Str):Bool×Ah :=
 lt (AA a0 a1) fun r1=>if r1.2 then (r1.2,(⟨mdel a0.m a1,i64 (a0.bytes-(Da r1.1))⟩:Ah)) else (r1.2,a0)
theorem AS.ok{G R F}(b0_:Nat)(a0:Ah)(g0_:Ah.G)(a1:Str)(r:Bool×Ah)(hm:AS a0 a1=r):CO Tryz.prog 36 [pt b0_ 0,vS a1] G R (Bk b0_ 138 [g0_.m,vI a0.bytes]::OwM vS Ak.v g0_.m a0.m::F)
  (Ret fun u R' L'=>u=vB r.1∧R'=R∧L'=Bk b0_ 138 [g0_.m,vI r.2.bytes]::OwM vS Ak.v g0_.m r.2.m::F):=by
 unfold AS at hm
 refine co_ofN (N:=29) Tryz.func36 z z ?_
 refine csr ?_
 refine r_as z ?_
 refine nsr ?_
 refine r_mv z (r_mv z ?_)
 obtain ⟨r1,hr1,hm2⟩:=ltx hm
 refine r_c (s_w (o_call ca40 z (AA.ok b0_ a0 g0_ a1 _ hr1))) ?_
 refine r_mv z ?_
 refine r_ext z z ?_
 refine r_ext z z ?_
 refine r_new (o_al ze50) fun b3 => ?_
 refine r_u0 (o_stn ag50 z z z z z z z) ?_
 refine r_as z ?_
 refine nssr ?_
 refine r_mv z ?_
 refine nsq ?_
 refine c_if (b:=r1.2) z (fun h4 => ?_) fun h4 => ?_
 rotate_left
 ·have hm5:=iff_ hm2 h4
  refine c_skip (x_seq (csr ?_))
  refine r_mv z (r_as z ?_)
  refine r_nil (x_seq (c_ret ?_))
  subst hm5
  refine ex_st (pk 3 [1,2]) ?_
  exact x_r1 z (rv_t z) le_ ⟨_,z,z,z,z⟩
 have hm5:=ift hm2 h4
 refine csr ?_
 refine r_mv z (r_nc z (r_fa fa138_0 z (r_ld 1 sc136 z z z (r_mv z ?_))))
 refine rl_st (fun _ h=>mv2 h) ?_
 refine r_u0 (o_del (kv:=vS) (vv:=Ak.v) (key:=a1) Tryz.underlying136 (kok_S Tryz.underlying9) z z z z) ?_
 refine nsq ?_
 refine c_any mixed (effs:=[9]) (V:=[]) ?_
 refine stage_st (fun _ h=>mv2 h) ?_
 refine stn mk35_ [0,1,2,3,4,5,6,7,8] [9] [_,_,_,_,_,_,_,_,_] (q_mv z z z (q_u z z (o_nc z) (q_fa z z fa138_1 z (q_ld z z 0 sc3 z z z (q_u z z (o_ldn 2 (Ak.c r1.1) ag50 z z z z) (q_u z z (o_callq ca66 z (Da.ok r1.1 _ z)) (q_u z z (o_bin z z (bI_sub _ _)) (q_u z z (o_nc z) (q_fa z z fa138_1 z qn))))))))) ?_ (nxt z)
 refine ec (eo_u z (s_u (o_st sc3 z z z z z z)) le_ ?_) en
 refine stage z z z z mk35_ [] [] z z z qn en ?_
 intro _
 refine ex_sub (E':=[(6,vB r1.2)]) ⟨z,trivial⟩ ?_
 refine x_seq (csr ?_)
 refine r_mv z (r_as z ?_)
 refine r_nil (x_seq (c_ret ?_))
 subst hm5
 refine ex_st (pk 3 [0,1]) ?_
 exact x_r1 z (rv_t z) le_ ⟨_,z,z,z,z⟩
def Ao(a0:Ac):Int :=
 a0.kind
theorem Ao.ok{G R F}(b0_:Nat)(a0:Ac)(g0_:Ac.G)(r:Int)(hm:Ao a0=r):CO Tryz.prog 67 [pt b0_ 0] G R (Bk b0_ 144 [vI a0.kind,g0_.a.1,g0_.t.1]::rO (Ai.op g0_.a.2) g0_.a.1 a0.a::rO (Af.op g0_.t.2) g0_.t.1 a0.t::F)
  (Ret fun u R' L'=>u=vI r∧R'=R∧L'=Bk b0_ 144 [vI a0.kind,g0_.a.1,g0_.t.1]::rO (Ai.op g0_.a.2) g0_.a.1 a0.a::rO (Af.op g0_.t.2) g0_.t.1 a0.t::F):=by
 obtain ⟨⟨pv1,g2⟩,⟨pv4,g5⟩⟩:=g0_
 unfold Ao at hm
 refine co_ofN (N:=9) Tryz.func67 z z ?_
 refine csr ?_
 refine r_as z ?_
 refine nssr ?_
 refine r_mv z (r_bin z z (bP_eqp Tryz.underlying93) ?_)
 refine nsq ?_
 refine c_ff z ?_
 refine c_skip (x_seq (csr ?_))
 refine r_mv z (r_nc z (r_fa fa144_0 z (r_ld 0 sc3 z z z (r_as z ?_))))
 refine r_nil (x_seq (c_ret ?_))
 subst hm
 exact x_r1 z (rv_t z) le_ ⟨_,z,z,z,z⟩
def A5(a0:Ab)(a1:Str):Option (Int×Bool) :=
 if !((mget a0.at_ a1).isSome) then some (0,false) else (gi a0.slots ((mget a0.at_ a1).getD (0:Int))).bind fun x6=>some (x6.list,true)
theorem A5.ok{G R F}(b0_:Nat)(a0:Ab)(g0_:Ab.G)(a1:Str)(r:Int×Bool)(hm:A5 a0 a1=some r):CO Tryz.prog 160 [pt b0_ 0,vS a1] G R (Bk b0_ 237 (Ab.k a0 g0_)::OwS true 240 4 As.c g0_.slots a0.slots::OwS true 3 1 eI g0_.free a0.free::OwM vS vI g0_.at_ a0.at_::OwS true 3 1 eI g0_.many a0.many::F)
  (Ret fun u R' L'=>u = .tuple #[vI r.1,vB r.2]∧R'=R∧L'=Bk b0_ 237 (Ab.k a0 g0_)::OwS true 240 4 As.c g0_.slots a0.slots::OwS true 3 1 eI g0_.free a0.free::OwM vS vI g0_.at_ a0.at_::OwS true 3 1 eI g0_.many a0.many::F):=by
 unfold A5 at hm
 refine co_ofN (N:=29) Tryz.func160 z z ?_
 refine csr ?_
 refine r_as z (r_as z ?_)
 refine nssr ?_
 refine r_mv z (r_bin z z (bP_eqp Tryz.underlying191) ?_)
 refine nsq ?_
 refine c_ff z ?_
 refine c_skip (x_seq (csr ?_))
 refine r_mv z (r_nc z (r_fa fa237_3 z (r_ld 0 sc235 z z z (r_mv z ?_))))
 refine r_u (o_lk (kv:=vS) (vv:=vI) (key:=a1) (z0:=(0:Int)) 3 Tryz.underlying235 (kok_S Tryz.underlying9) (fun _=>by kernel_rfl) z z z) (r_mv z ?_)
 refine r_ext z z ?_
 refine r_ext z z (r_as z (r_as z ?_))
 refine nssr ?_
 refine r_mv z ?_
 refine r_u (o_not z) ?_
 refine nsq ?_
 refine c_if (b := !((mget a0.at_ a1).isSome)) z (fun h4 => ?_) fun h4 => ?_
 ·have hm5:=ift hm h4
  refine csr ?_
  refine r_as z (r_as z ?_)
  refine r_nil (x_seq (c_ret ?_))
  obtain rfl:=si hm5
  exact x_r2 z (rv_t z) (rv_t z) le_ ⟨_,z,z,z,z⟩
 have hm5:=iff_ hm h4
 refine c_skip (x_seq (csr ?_))
 refine r_mv z (r_nc z (r_fa fa237_1 z (r_ld 0 sc233 z z z (r_mv z ?_))))
 obtain ⟨x6,hx6,hm7⟩:=bs hm5
 refine r_u (o_ixO 1 Tryz.underlying233 (fun _=>by kernel_rfl) z z z hx6) (r_fa fa240_1 z (r_u (o_ldO 1 1 sc3 z z hx6 z z) (r_as z (r_as z ?_))))
 refine r_nil (x_seq (c_ret ?_))
 obtain rfl:=si hm7
 exact x_r2 z (rv_t z) (rv_t z) le_ ⟨_,z,z,z,z⟩
def B7(a0:Ai)(a1:Str):Option Bool :=
 om a0.r (none) fun x3=>(A5 x3 a1).bind fun r11=>some (r11.2&&decide (r11.1≤1))
theorem B7.ok{G R F}(b0_:Nat)(a0:Ai)(g0_:Ai.G)(a1:Str)(r:Bool)(hm:B7 a0 a1=some r):CO Tryz.prog 116 [pt b0_ 0,vS a1] G R (Bk b0_ 193 [vI a0.most,vI a0.target,g0_.r.1]::rO (Ab.op g0_.r.2) g0_.r.1 a0.r::F)
  (Ret fun u R' L'=>u=vB r∧R'=R∧L'=Bk b0_ 193 [vI a0.most,vI a0.target,g0_.r.1]::rO (Ab.op g0_.r.2) g0_.r.1 a0.r::F):=by
 obtain ⟨⟨pv1,g2⟩⟩:=g0_
 unfold B7 at hm
 refine co_ofN (N:=23) Tryz.func116 z z ?_
 refine csr ?_
 refine r_as z ?_
 refine nssr ?_
 refine r_mv z (r_bin z z (bP_eqp Tryz.underlying141) ?_)
 refine nsq ?_
 refine c_ff z ?_
 refine c_skip (x_seq (c_seq ?_))
 refine cd_st (fun _ h=>mv1 h) ?_
 refine cd_opt (fun ho5 => ?_) (fun x3 b4 ho5 => ?_)
 ·rintro rfl
  have hm6:=om_n hm ho5
  cases hm6
 rintro rfl
 have hm6:=om_s hm ho5
 refine cd_st (fun _ h=>st_star_o h) ?_
 refine c_reg ?_
 refine r_mv z (r_nc z (r_fa fa193_2 z (r_ld 5 sc191 z z z (r_mv z ?_))))
 obtain ⟨r11,hr11,hm12⟩:=bs hm6
 refine r_c (s_w (o_call ca160 z (A5.ok b4 x3 g2 a1 _ hr11))) ?_
 refine r_mv z ?_
 refine r_ext z z ?_
 refine r_ext z z (r_as z (r_as z ?_))
 refine nsr ?_
 refine r_mv z (r_mv z ?_)
 refine r_s (s_gt z z fun g=>o_mv z) ?_
 refine r_s (s_gt z z fun g=>o_bin (evg z g) z (bI_le _ 1)) ?_
 refine r_u (o_and z z) (r_as z ?_)
 refine r_nil (x_seq (c_ret ?_))
 refine ex_st (fun _ h=>st_some (f:=Ab.op g2) (a:=x3) (st_star_f (A:=Ab.fl b4 x3 g2) h)) ?_
 refine ex_st (fun _ h=>st_back ho5 h) ?_
 obtain rfl:=si hm12
 refine ex_st (pk 2 [1,0]) ?_
 exact x_r1 z (rv_t z) le_ ⟨_,z,z,z,z⟩
def B8(a0:Ab)(a1:Int):Option Ab :=
 (gi a0.slots a1).bind fun x4=>(gi a0.slots x4.prev).bind fun x6=>(gi (ls a0.slots x4.prev (⟨x6.key,x6.list,x6.prev,x4.next⟩:As)) x4.next).bind fun x8=>(gi (ls (ls a0.slots x4.prev (⟨x6.key,x6.list,x6.prev,x4.next⟩:As)) x4.next (⟨x8.key,x8.list,x4.prev,x8.next⟩:As)) a1).bind fun x10=>(gi a0.many x10.list).bind fun x12=>some (⟨a0.lists,ls (ls a0.slots x4.prev (⟨x6.key,x6.list,x6.prev,x4.next⟩:As)) x4.next (⟨x8.key,x8.list,x4.prev,x8.next⟩:As),a0.free,a0.at_,ls a0.many x10.list (i64 (x12-1))⟩:Ab)
theorem B8.ok{G R F}(b0_:Nat)(a0:Ab)(g0_:Ab.G)(a1:Int)(r:Ab)(hm:B8 a0 a1=some r):CO Tryz.prog 161 [pt b0_ 0,vI a1] G R (Bk b0_ 237 (Ab.k a0 g0_)::OwS true 240 4 As.c g0_.slots a0.slots::OwS true 3 1 eI g0_.free a0.free::OwM vS vI g0_.at_ a0.at_::OwS true 3 1 eI g0_.many a0.many::F)
  (Ret fun u R' L'=>u = .tuple #[]∧R'=R∧L'=Bk b0_ 237 (Ab.k r g0_)::OwS true 240 4 As.c g0_.slots r.slots::OwS true 3 1 eI g0_.free r.free::OwM vS vI g0_.at_ r.at_::OwS true 3 1 eI g0_.many r.many::F):=by
 unfold B8 at hm
 refine co_ofN (N:=51) Tryz.func161 z z ?_
 refine csr ?_
 refine r_mv z (r_nc z (r_fa fa237_1 z (r_ld 0 sc233 z z z (r_mv z ?_))))
 obtain ⟨x4,hx4,hm5⟩:=bs hm
 refine r_u (o_ixO 1 Tryz.underlying233 (fun _=>by kernel_rfl) z z z hx4) (r_as z ?_)
 refine r_nil (x_seq (c_seq ?_))
 obtain ⟨x6,hx6,hm7⟩:=bs hm5
 obtain ⟨x8,hx8,hm9⟩:=bs hm7
 refine c_any mixed (effs:=[26,29]) (V:=[]) ?_
 refine stage_st (fun _ h=>mv1 h) ?_
 refine stn mk30_ [0,1,2,3,4,5,6,7,8,9,10,11,12,13,14,15,16,17,18,19,20,21,22,23,24,25] [26] [_,_,_,_,_,_,_,_,_,_,_,_,_,_,_,_,_,_,_,_,_,_,_,_,_,_] (q_mv z z z (q_u z z (o_nc z) (q_fa z z fa237_1 z (q_ld z z 1 sc233 z z z (q_mv z z z (q_u z z (o_nc z) (q_fa z z fa240_2 z (q_u z z (o_ldO 0 2 sc3 z z hx4 z z) (q_mv z z z (q_u z z (o_nc z) (q_fa z z fa237_1 z (q_ld z z 1 sc233 z z z (q_mv z z z (q_u z z (o_nc z) (q_fa z z fa240_3 z (q_u z z (o_ldO 0 3 sc3 z z hx4 z z) (q_mv z z z (q_u z z (o_nc z) (q_fa z z fa240_3 z (q_u z z (o_ldO 0 3 sc3 z z hx4 z z) (q_mv z z z (q_u z z (o_nc z) (q_fa z z fa240_2 z (q_u z z (o_ldO 0 2 sc3 z z hx4 z z) (q_u z z (o_ixO 0 Tryz.underlying233 (fun _=>by kernel_rfl) z z z hx6) (q_fa z z fa240_3 z qn)))))))))))))))))))))))))) ?_ (nxt z)
 refine ec (eo_u z (s_u (o_stO (c':=(⟨x6.key,x6.list,x6.prev,x4.next⟩:As)) 3 sc3 z z z hx6 z z z)) le_ ?_) en
 refine stn mk30_ [27,28] [29] [_,_] (q_u z z (o_ixO 0 Tryz.underlying233 (fun _=>by kernel_rfl) z z z hx8) (q_fa z z fa240_2 z qn)) ?_ (nxt z)
 refine ec (eo_u z (s_u (o_stO (c':=(⟨x8.key,x8.list,x4.prev,x8.next⟩:As)) 2 sc3 z z z hx8 z z z)) le_ ?_) en
 refine stage z z z z mk30_ [] [] z z z qn en ?_
 intro _
 refine ex_sub (E':=[(0,pt b0_ 0),(4,pt (sb g0_.slots) (so g0_.slots+a1.toNat*4))]) ⟨z,z,trivial⟩ ?_
 refine x_seq ?_
 obtain ⟨x10,hx10,hm11⟩:=bs hm9
 obtain ⟨x12,hx12,hm13⟩:=bs hm11
 refine c_any mixed (effs:=[12]) (V:=[]) ?_
 refine stage_st (fun _ h=>mv4 h) ?_
 refine stn mk32_ [0,1,2,3,4,5,6,7,8,9,10,11] [12] [_,_,_,_,_,_,_,_,_,_,_,_] (q_mv z z z (q_u z z (o_nc z) (q_fa z z fa237_4 z (q_ld z z 2 sc234 z z z (q_mv z z z (q_u z z (o_nc z) (q_fa z z fa240_1 z (q_u z z (o_ldO 1 1 sc3 z z hx10 z z) (q_u z z (o_ixO 0 Tryz.underlying234 (fun _=>by kernel_rfl) z z z hx12) (q_u z z (o_ldO0 0 sc3 z z hx12 z z) (q_u z z (o_bin z z (bI_sub _ 1)) (q_u z z (o_ixO 0 Tryz.underlying234 (fun _=>by kernel_rfl) z z z hx12) qn)))))))))))) ?_ (nxt z)
 refine ec (eo_u z (s_u (o_stO0 (c':=i64 (x12-1)) sc3 z z z hx12 z z z)) le_ ?_) en
 refine stage z z z z mk32_ [] [] z z z qn en ?_
 intro _
 refine ex_sub (E':=[]) trivial ?_
 refine x_end ?_
 obtain rfl:=si hm13
 refine ex_st (pk 5 [2,1,3,4,0]) ?_
 exact x_r0 z le_ ⟨_,z,z,z,z⟩
def AO(a0:Ab)(a1:Str):Option (Bool×Ab) :=
 if (mget a0.at_ a1).isSome then (B8 a0 ((mget a0.at_ a1).getD (0:Int))).bind fun r6=>(gi r6.slots ((mget a0.at_ a1).getD (0:Int))).bind fun x8=>(apd 8 r6.free [((mget a0.at_ a1).getD (0:Int))]).bind fun l12=>some ((mget a0.at_ a1).isSome,(⟨r6.lists,ls r6.slots ((mget a0.at_ a1).getD (0:Int)) (⟨[],0,0,0⟩:As),l12,mdel r6.at_ a1,r6.many⟩:Ab)) else some ((mget a0.at_ a1).isSome,a0)
theorem AO.ok{G R F}(b0_:Nat)(a0:Ab)(g0_:Ab.G)(a1:Str)(r:Bool×Ab)(hm:AO a0 a1=some r):CO Tryz.prog 117 [pt b0_ 0,vS a1] G R (Bk b0_ 237 (Ab.k a0 g0_)::OwS true 240 4 As.c g0_.slots a0.slots::OwS true 3 1 eI g0_.free a0.free::OwM vS vI g0_.at_ a0.at_::OwS true 3 1 eI g0_.many a0.many::F)
  (Ret fun u R' L'=>∃(q0:Ab.G),u=vB r.1∧R'=R∧L'=Bk b0_ 237 (Ab.k r.2 q0)::OwS true 240 4 As.c q0.slots r.2.slots::OwS true 3 1 eI q0.free r.2.free::OwM vS vI q0.at_ r.2.at_::OwS true 3 1 eI q0.many r.2.many::F):=by
 unfold AO at hm
 refine co_ofN (N:=45) Tryz.func117 z z ?_
 refine csr ?_
 refine r_as z ?_
 refine nssr ?_
 refine r_mv z (r_bin z z (bP_eqp Tryz.underlying191) ?_)
 refine nsq ?_
 refine c_ff z ?_
 refine c_skip (x_seq (csr ?_))
 refine r_mv z (r_nc z (r_fa fa237_3 z (r_ld 0 sc235 z z z (r_mv z ?_))))
 refine r_u (o_lk (kv:=vS) (vv:=vI) (key:=a1) (z0:=(0:Int)) 3 Tryz.underlying235 (kok_S Tryz.underlying9) (fun _=>by kernel_rfl) z z z) (r_mv z ?_)
 refine r_ext z z ?_
 refine r_ext z z (r_as z (r_as z ?_))
 refine nssr ?_
 refine r_mv z ?_
 refine nsq ?_
 refine c_if (b:=(mget a0.at_ a1).isSome) z (fun h4 => ?_) fun h4 => ?_
 rotate_left
 ·have hm5:=iff_ hm h4
  refine c_skip (x_seq (csr ?_))
  refine r_mv z (r_as z ?_)
  refine r_nil (x_seq (c_ret ?_))
  obtain rfl:=si hm5
  exact x_r1 z (rv_t z) le_ ⟨_,z,g0_,z,z,z⟩
 have hm5:=ift hm h4
 refine csr ?_
 refine r_mv z (r_mv z ?_)
 obtain ⟨r6,hr6,hm7⟩:=bs hm5
 refine r_c (s_w (o_call ca161 z (B8.ok b0_ a0 g0_ _ _ hr6))) ?_
 refine nsr ?_
 refine r_mv z (r_nc z (r_fa fa237_3 z (r_ld 0 sc235 z z z (r_mv z ?_))))
 refine rl_st (fun _ h=>mv3 h) ?_
 refine r_u0 (o_del (kv:=vS) (vv:=vI) (key:=a1) Tryz.underlying235 (kok_S Tryz.underlying9) z z z z) ?_
 refine nsr ?_
 refine r_mv z (r_nc z (r_fa fa237_1 z (r_ld 1 sc233 z z z (r_mv z ?_))))
 refine r_u (o_bld [vS [],vI 0,vI 0,vI 0] z (fun _=>by kernel_rfl)) ?_
 obtain ⟨x8,hx8,hm9⟩:=bs hm7
 refine r_u (o_ixO 2 Tryz.underlying233 (fun _=>by kernel_rfl) z z z hx8) ?_
 refine rl_st (fun _ h=>mv2 h) ?_
 refine r_u0 (o_stnO (c':=(⟨[],0,0,0⟩:As)) ag240 z z z hx8 z z z) ?_
 refine r_nil (x_seq (c_reg ?_))
 refine r_mv z (r_mv z (r_nc z (r_fa fa237_2 z (r_ld 2 sc234 z z z (r_mv z ?_)))))
 refine r_sw (s_w (o_bsl (en:=eI) (sz:=1) (e:=3) (cs:=[vI ((mget a0.at_ a1).getD (0:Int))]) (r:=[((mget a0.at_ a1).getD (0:Int))]) z (fun _=>by kernel_rfl) z (by decide) z (fun _=>z))) ?_
 rintro v10 R _ _ ⟨rfl,rfl⟩
 obtain ⟨l12,hl12,hm13⟩:=bs hm9
 refine rl_st (fun _ h=>mv4 h) ?_
 refine r_sw (s_w (o_ap (sz:=1) (bytes:=8) 0 Tryz.underlying234 z z z z z (by decide) (by decide) (fun _ _ _ h=>by simp at h;subst h;rfl) (fun _=>z) z z z z (Nat.succ_pos _) hl12)) ?_
 rintro v11 R _ _ ⟨rfl,rfl⟩
 refine r_nc z (r_fa fa237_2 z ?_)
 refine rl_st (fun _ h=>mv4 h) ?_
 refine r_u0 (ou_if (one_o 1 z) fun ho0=>o_st sc234 z z z ho0 z z) ?_
 refine nsr ?_
 refine r_mv z (r_as z ?_)
 refine r_nil (x_seq (c_ret ?_))
 obtain rfl:=si hm13
 refine ex_st (pk 6 [0,3,1,4,5]) ?_
 exact x_r1 z (rv_t z) le_ ⟨_,z,(⟨g0_.slots,v11,g0_.at_,g0_.many⟩:Ab.G),z,z,z⟩
def Cj(a0:Ai)(a1:Str):Option (Bool×Ai) :=
 (B7 a0 a1).bind fun r3=>om a0.r (none) fun x5=>(AO x5 a1).bind fun r13=>some (r3,(⟨a0.most,a0.target,(some r13.2)⟩:Ai))
theorem Cj.ok{G R F}(b0_:Nat)(a0:Ai)(g0_:Ai.G)(a1:Str)(r:Bool×Ai)(hm:Cj a0 a1=some r):CO Tryz.prog 68 [pt b0_ 0,vS a1] G R (Bk b0_ 193 [vI a0.most,vI a0.target,g0_.r.1]::rO (Ab.op g0_.r.2) g0_.r.1 a0.r::F)
  (Ret fun u R' L'=>∃(q0:Ai.G),u=vB r.1∧R'=R∧L'=Bk b0_ 193 [vI r.2.most,vI r.2.target,q0.r.1]::rO (Ab.op q0.r.2) q0.r.1 r.2.r::F):=by
 obtain ⟨⟨pv1,g2⟩⟩:=g0_
 unfold Cj at hm
 refine co_ofN (N:=18) Tryz.func68 z z ?_
 refine csr ?_
 refine r_as z ?_
 refine nsr ?_
 refine r_mv z (r_mv z ?_)
 obtain ⟨r3,hr3,hm4⟩:=bs hm
 refine r_c (s_w (o_call ca116 z (B7.ok b0_ a0 (⟨(pv1,g2)⟩:Ai.G) a1 _ hr3))) ?_
 refine r_as z ?_
 refine nssr ?_
 refine r_mv z (r_bin z z (bP_nep Tryz.underlying141) ?_)
 refine nsq ?_
 refine c_tt z ?_
 refine cd_st (fun _ h=>mv1 h) ?_
 refine cd_opt (fun ho7 => ?_) (fun x5 b6 ho7 => ?_)
 ·rintro rfl
  have hm8:=om_n hm4 ho7
  cases hm8
 rintro rfl
 have hm8:=om_s hm4 ho7
 refine cd_st (fun _ h=>st_star_o h) ?_
 refine c_reg ?_
 refine r_mv z (r_nc z (r_fa fa193_2 z (r_ld 5 sc191 z z z (r_mv z ?_))))
 obtain ⟨r13,hr13,hm19⟩:=bs hm8
 refine r_sw (s_w (o_call ca117 z (AO.ok b6 x5 g2 a1 _ hr13))) ?_
 rintro _ R _ _ ⟨g14,rfl,rfl,rfl⟩
 refine nsr ?_
 refine r_mv z (r_as z ?_)
 refine r_nil (x_seq (c_ret ?_))
 refine ex_st (fun _ h=>st_some (f:=Ab.op g14) (a:=r13.2) (st_star_f (A:=Ab.fl b6 r13.2 g14) h)) ?_
 obtain rfl:=si hm19
 refine ex_st (pk 2 [1,0]) ?_
 exact x_r1 z (rv_t z) le_ ⟨_,z,(⟨(pt b6 0,g14)⟩:Ai.G),z,z,z⟩
def Ct(a0:Af)(a1:Str):Option (Bool×Af) :=
 om a0.r (none) fun x6=>(AO x6 a1).bind fun r14=>some (r14.1,(⟨a0.most,a0.s,(some r14.2)⟩:Af))
theorem Ct.ok{G R F}(b0_:Nat)(a0:Af)(g0_:Af.G)(a1:Str)(r:Bool×Af)(hm:Ct a0 a1=some r):CO Tryz.prog 69 [pt b0_ 0,vS a1] G R (Bk b0_ 196 [vI a0.most,g0_.s.1,g0_.r.1]::rO (Ae.op g0_.s.2) g0_.s.1 a0.s::rO (Ab.op g0_.r.2) g0_.r.1 a0.r::F)
  (Ret fun u R' L'=>∃(q0:Af.G),u=vB r.1∧R'=R∧L'=Bk b0_ 196 [vI r.2.most,q0.s.1,q0.r.1]::rO (Ae.op q0.s.2) q0.s.1 r.2.s::rO (Ab.op q0.r.2) q0.r.1 r.2.r::F):=by
 obtain ⟨⟨pv1,g2⟩,⟨pv4,g5⟩⟩:=g0_
 unfold Ct at hm
 refine co_ofN (N:=15) Tryz.func69 z z ?_
 refine csr ?_
 refine r_as z ?_
 refine r_nil (x_seq (c_seq ?_))
 refine cd_st (fun _ h=>mv2 h) ?_
 refine cd_opt (fun ho8 => ?_) (fun x6 b7 ho8 => ?_)
 ·rintro rfl
  have hm9:=om_n hm ho8
  cases hm9
 rintro rfl
 have hm9:=om_s hm ho8
 refine cd_st (fun _ h=>st_star_o h) ?_
 refine c_reg ?_
 refine r_mv z (r_bin z z (bP_nep Tryz.underlying142) (r_mv z ?_))
 refine r_s (s_y z z z (o_mv z)) ?_
 refine r_s (s_y z z z (o_nc z)) ?_
 refine r_s (s_y z z z (o_fa fa196_2 z)) ?_
 refine r_s (s_y z z z (o_ld 5 sc191 z z z)) ?_
 refine r_s (s_y z z z (o_mv z)) ?_
 obtain ⟨r14,hr14,hm20⟩:=bs hm9
 refine r_sw (s_yw z z z (o_call ca117 z (AO.ok b7 x6 g5 a1 _ hr14))) ?_
 rintro _ R _ _ ⟨g15,rfl,rfl,rfl⟩
 refine r_u (o_pt z z z) (r_as z ?_)
 refine r_nil (x_seq (c_ret ?_))
 refine ex_st (fun _ h=>st_some (f:=Ab.op g15) (a:=r14.2) (st_star_f (A:=Ab.fl b7 r14.2 g15) h)) ?_
 obtain rfl:=si hm20
 refine ex_st (pk 3 [1,2,0]) ?_
 exact x_r1 z (rv_t z) le_ ⟨_,z,(⟨(pv1,g2),(pt b7 0,g15)⟩:Af.G),z,z,z⟩
def AY(a0:Ac)(a1:Str):Option (Bool×Ac) :=
 if ((Ao a0)==1) then om a0.a (none) fun x8=>(Cj x8 a1).bind fun r15=>some (r15.1,(⟨a0.kind,(some r15.2),a0.t⟩:Ac)) else if ((Ao a0)==2) then om a0.t (none) fun x23=>(Ct x23 a1).bind fun r33=>some (r33.1,(⟨a0.kind,a0.a,(some r33.2)⟩:Ac)) else some (false,a0)
theorem AY.ok{G R F}(b0_:Nat)(a0:Ac)(g0_:Ac.G)(a1:Str)(r:Bool×Ac)(hm:AY a0 a1=some r):CO Tryz.prog 37 [pt b0_ 0,vS a1] G R (Bk b0_ 144 [vI a0.kind,g0_.a.1,g0_.t.1]::rO (Ai.op g0_.a.2) g0_.a.1 a0.a::rO (Af.op g0_.t.2) g0_.t.1 a0.t::F)
  (Ret fun u R' L'=>∃(q0:Ac.G),u=vB r.1∧R'=R∧L'=Bk b0_ 144 [vI r.2.kind,q0.a.1,q0.t.1]::rO (Ai.op q0.a.2) q0.a.1 r.2.a::rO (Af.op q0.t.2) q0.t.1 r.2.t::F):=by
 obtain ⟨⟨pv1,g2⟩,⟨pv4,g5⟩⟩:=g0_
 unfold AY at hm
 refine co_ofN (N:=23) Tryz.func37 z z ?_
 refine csr ?_
 refine r_as z ?_
 refine nssr ?_
 refine r_mv z ?_
 refine r_c (s_w (o_call ca67 z (Ao.ok b0_ a0 (⟨(pv1,g2),(pv4,g5)⟩:Ac.G) _ z))) ?_
 refine r_nil (x_seq (c_blk (csr ?_)))
 refine r_bin z z (bI_eq _ 1) (r_as z ?_)
 refine nsq ?_
 refine c_if (b:=((Ao a0)==1)) z (fun h6 => ?_) fun h6 => ?_
 ·have hm7:=ift hm h6
  refine c_seq ?_
  refine cd_st (fun _ h=>mv1 h) ?_
  refine cd_opt (fun ho10 => ?_) (fun x8 b9 ho10 => ?_)
  ·rintro rfl
   have hm11:=om_n hm7 ho10
   cases hm11
  rintro rfl
  have hm11:=om_s hm7 ho10
  obtain ⟨⟨pv13,g14⟩⟩:=g2
  refine cd_st (fun _ h=>st_star_o h) ?_
  refine c_reg ?_
  refine r_mv z (r_nc z (r_fa fa144_1 z (r_ld 2 sc141 z z z (r_mv z ?_))))
  obtain ⟨r15,hr15,hm20⟩:=bs hm11
  refine r_sw (s_w (o_call ca68 z (Cj.ok b9 x8 (⟨(pv13,g14)⟩:Ai.G) a1 _ hr15))) ?_
  rintro _ R _ _ ⟨⟨⟨pv18,g19⟩⟩,rfl,rfl,rfl⟩
  refine r_as z ?_
  refine r_nil (x_seq (c_ret ?_))
  refine ex_st (fun _ h=>st_some (f:=Ai.op (⟨(pv18,g19)⟩:Ai.G)) (a:=r15.2) (st_star_f (A:=Ai.fl b9 r15.2 (⟨(pv18,g19)⟩:Ai.G)) h)) ?_
  obtain rfl:=si hm20
  refine ex_st (pk 3 [1,0,2]) ?_
  exact x_r1 z (rv_t z) le_ ⟨_,z,(⟨(pt b9 0,(⟨(pv18,g19)⟩:Ai.G)),(pv4,g5)⟩:Ac.G),z,z,z⟩
 have hm7:=iff_ hm h6
 refine csr ?_
 refine r_bin z z (bI_eq _ 2) (r_as z ?_)
 refine nsq ?_
 refine c_if (b:=((Ao a0)==2)) z (fun h21 => ?_) fun h21 => ?_
 rotate_left
 ·have hm22:=iff_ hm7 h21
  refine c_skip (x_blk (x_seq (csr ?_)))
  refine r_as z ?_
  refine r_nil (x_seq (c_ret ?_))
  obtain rfl:=si hm22
  exact x_r1 z (rv_t z) le_ ⟨_,z,(⟨(pv1,g2),(pv4,g5)⟩:Ac.G),z,z,z⟩
 have hm22:=ift hm7 h21
 refine c_seq ?_
 refine cd_st (fun _ h=>mv2 h) ?_
 refine cd_opt (fun ho25 => ?_) (fun x23 b24 ho25 => ?_)
 ·rintro rfl
  have hm26:=om_n hm22 ho25
  cases hm26
 rintro rfl
 have hm26:=om_s hm22 ho25
 obtain ⟨⟨pv28,g29⟩,⟨pv31,g32⟩⟩:=g5
 refine cd_st (fun _ h=>st_star_o h) ?_
 refine c_reg ?_
 refine r_mv z (r_nc z (r_fa fa144_2 z (r_ld 3 sc142 z z z (r_mv z ?_))))
 obtain ⟨r33,hr33,hm41⟩:=bs hm26
 refine r_sw (s_w (o_call ca69 z (Ct.ok b24 _ (⟨(pv28,g29),(pv31,g32)⟩:Af.G) a1 _ hr33))) ?_
 rintro _ R _ _ ⟨⟨⟨pv36,g37⟩,⟨pv39,g40⟩⟩,rfl,rfl,rfl⟩
 refine r_as z ?_
 refine r_nil (x_seq (c_ret ?_))
 refine ex_st (fun _ h=>st_some (f:=Af.op (⟨(pv36,g37),(pv39,g40)⟩:Af.G)) (a:=r33.2) (st_star_f (A:=Af.fl b24 r33.2 (⟨(pv36,g37),(pv39,g40)⟩:Af.G)) h)) ?_
 obtain rfl:=si hm41
 refine ex_st (pk 3 [1,2,0]) ?_
 exact x_r1 z (rv_t z) le_ ⟨_,z,(⟨(pv1,g2),(pt b24 0,(⟨(pv36,g37),(pv39,g40)⟩:Af.G))⟩:Ac.G),z,z,z⟩
def B6(a0:Af)(a1:Str):Option Bool :=
 om a0.r (none) fun x6=>(A5 x6 a1).bind fun r14=>some r14.2
theorem B6.ok{G R F}(b0_:Nat)(a0:Af)(g0_:Af.G)(a1:Str)(r:Bool)(hm:B6 a0 a1=some r):CO Tryz.prog 118 [pt b0_ 0,vS a1] G R (Bk b0_ 196 [vI a0.most,g0_.s.1,g0_.r.1]::rO (Ae.op g0_.s.2) g0_.s.1 a0.s::rO (Ab.op g0_.r.2) g0_.r.1 a0.r::F)
  (Ret fun u R' L'=>u=vB r∧R'=R∧L'=Bk b0_ 196 [vI a0.most,g0_.s.1,g0_.r.1]::rO (Ae.op g0_.s.2) g0_.s.1 a0.s::rO (Ab.op g0_.r.2) g0_.r.1 a0.r::F):=by
 obtain ⟨⟨pv1,g2⟩,⟨pv4,g5⟩⟩:=g0_
 unfold B6 at hm
 refine co_ofN (N:=19) Tryz.func118 z z ?_
 refine csr ?_
 refine r_as z ?_
 refine nssr ?_
 refine r_mv z (r_bin z z (bP_eqp Tryz.underlying142) ?_)
 refine nsq ?_
 refine c_ff z ?_
 refine c_skip (x_seq (c_seq ?_))
 refine cd_st (fun _ h=>mv2 h) ?_
 refine cd_opt (fun ho8 => ?_) (fun x6 b7 ho8 => ?_)
 ·rintro rfl
  have hm9:=om_n hm ho8
  cases hm9
 rintro rfl
 have hm9:=om_s hm ho8
 refine cd_st (fun _ h=>st_star_o h) ?_
 refine c_reg ?_
 refine r_mv z (r_nc z (r_fa fa196_2 z (r_ld 5 sc191 z z z (r_mv z ?_))))
 obtain ⟨r14,hr14,hm15⟩:=bs hm9
 refine r_c (s_w (o_call ca160 z (A5.ok b7 x6 g5 a1 _ hr14))) ?_
 refine r_mv z ?_
 refine r_ext z z ?_
 refine r_ext z z (r_as z (r_as z ?_))
 refine nsr ?_
 refine r_mv z (r_as z ?_)
 refine r_nil (x_seq (c_ret ?_))
 refine ex_st (fun _ h=>st_some (f:=Ab.op g5) (a:=x6) (st_star_f (A:=Ab.fl b7 x6 g5) h)) ?_
 refine ex_st (fun _ h=>st_back ho8 h) ?_
 obtain rfl:=si hm15
 refine ex_st (pk 3 [1,2,0]) ?_
 exact x_r1 z (rv_t z) le_ ⟨_,z,z,z,z⟩
def Cl(a0:UInt64)(a1:Int):UInt64 :=
 (shWl a0 (((toW a1) &&& 63).toNat:Int)) ||| (shWr a0 ((64-((toW a1) &&& 63)).toNat:Int))
theorem Cl.ok{G R F}(a0:UInt64)(a1:Int)(r:UInt64)(hm:Cl a0 a1=r):CO Tryz.prog 253 [vW a0,vI a1] G R (F)
  (Ret fun u R' L'=>u=vW r∧R'=R∧L'=F):=by
 unfold Cl at hm
 refine co_ofN (N:=17) Tryz.func253 z z ?_
 refine csr ?_
 refine r_as z ?_
 refine nsr ?_
 refine r_mv z (r_u (o_cv z (cIW Tryz.underlying3 Tryz.underlying134 a1)) (r_bin z z (bW_and _ 63) (r_as z ?_)))
 refine nsr ?_
 refine r_mv z (r_mv z (r_bin z z (bWW_shl a0 ((toW a1) &&& 63)) (r_mv z (r_mv z (r_bin z z (bW_sub 64 _) (r_bin z z (bWW_shr a0 (64-((toW a1) &&& 63))) (r_u (o_bin z z (bW_or _ _)) (r_as z ?_))))))))
 refine r_nil (x_seq (c_ret ?_))
 subst hm
 exact x_r1 z (rv_t z) le_ ⟨_,z,z,z,z⟩
def CQ(a0:UInt64):UInt64 :=
 ((Cl ((a0 ^^^ (shWr a0 ((32:UInt64).toNat:Int)))*11400714819323198485) 29)*11400714819323198485) ^^^ (shWr ((Cl ((a0 ^^^ (shWr a0 ((32:UInt64).toNat:Int)))*11400714819323198485) 29)*11400714819323198485) ((32:UInt64).toNat:Int))
theorem CQ.ok{G R F}(a0:UInt64)(r:UInt64)(hm:CQ a0=r):CO Tryz.prog 249 [vW a0] G R (F)
  (Ret fun u R' L'=>u=vW r∧R'=R∧L'=F):=by
 unfold CQ at hm
 refine co_ofN (N:=17) Tryz.func249 z z ?_
 refine csr ?_
 refine r_as z ?_
 refine nsr ?_
 refine r_mv z (r_mv z (r_bin z z (bWW_shr a0 32) (r_bin z z (bW_xor a0 _) (r_as z ?_))))
 refine nsr ?_
 refine r_mv z (r_u (o_bin z z (bW_mul _ 11400714819323198485)) (r_as z ?_))
 refine nsr ?_
 refine r_mv z ?_
 refine r_u (o_callq ca253 z (Cl.ok ((a0 ^^^ (shWr a0 ((32:UInt64).toNat:Int)))*11400714819323198485) 29 _ z)) (r_as z ?_)
 refine nsr ?_
 refine r_mv z (r_u (o_bin z z (bW_mul _ 11400714819323198485)) (r_as z ?_))
 refine nsr ?_
 refine r_mv z (r_mv z (r_u (o_bin z z (bWW_shr ((Cl ((a0 ^^^ (shWr a0 ((32:UInt64).toNat:Int)))*11400714819323198485) 29)*11400714819323198485) 32)) (r_u (o_bin z z (bW_xor _ _)) (r_as z ?_))))
 refine r_nil (x_seq (c_ret ?_))
 subst hm
 exact x_r1 z (rv_t z) le_ ⟨_,z,z,z,z⟩
def Dp(a1:Str):Nat→UInt64→Int→Option (UInt64)
 | 0,_,_=>none
 | k9+1,h_7,s_8=>if decide (s_8<(a1.length:Int)) then (gi a1 s_8).bind fun x14=>Dp a1 k9 ((h_7 ^^^ x14.toUInt64)*1099511628211) (i64 (s_8+1)) else some h_7
def DF(a0:UInt64)(a1:Str):Option UInt64 :=
 if a1.length≤maxLen then Option.bind (Dp a1 (((a1.length:Int)-0).toNat+1) (14695981039346656037 ^^^ (CQ a0)) 0) fun p3=>some (CQ (p3 ^^^ (toW (a1.length:Int)))) else none
theorem DF.ok{G R F}(a0:UInt64)(a1:Str)(r:UInt64)(hm:DF a0 a1=some r):CO Tryz.prog 240 [vW a0,vS a1] G R (F)
  (Ret fun u R' L'=>u=vW r∧R'=R∧L'=F):=by
 unfold DF at hm
 refine co_ofN (N:=30) Tryz.func240 z z ?_
 refine csr ?_
 refine r_as z ?_
 refine nsr ?_
 refine r_mv z ?_
 refine r_u (o_callq ca249 z (CQ.ok a0 _ z)) (r_bin z z (bW_xor 14695981039346656037 _) (r_as z ?_))
 refine nssr ?_
 refine r_mv z ?_
 obtain ⟨h0,hm2⟩:=ig hm
 refine r_sw (s_w (o_sb Tryz.underlying9 Tryz.underlying131 Tryz.underlying5 z h0)) ?_
 rintro v1 R _ _ ⟨rfl,rfl⟩
 refine r_u (o_lenO 0 Tryz.underlying131 z z) (r_mv z ?_)
 refine nsq ?_
 obtain ⟨p3,hp4,hm5⟩:=bs hm2
 refine cd_join (E':=[(1,vS a1),(5,vW p3)]) (L':=OwS false 5 1 eY v1 a1::F) ?_ fun K6 => ?_
 ·refine x_seq (csr ?_)
  refine r_mv z (r_mv z (r_u (o_lenS Tryz.underlying9 z) (r_u (o_cv z (cIW Tryz.underlying3 Tryz.underlying22 (a1.length:Int))) (r_bin z z (bW_xor p3 _) ?_))))
  refine r_u (o_callq ca249 z (CQ.ok (p3 ^^^ (toW (a1.length:Int))) _ z)) (r_as z ?_)
  refine r_nil (x_seq (c_ret ?_))
  obtain rfl:=si hm5
  refine ex_st (pk 1 []) ?_
  exact x_r1 z (rv_t z) le_ ⟨_,z,z,z,z⟩
 refine c_blk ?_
 refine cd_loop (M:=fun k9 (s:UInt64×Int)=>Dp a1 k9 s.1 s.2=some p3) (Ef:=fun (s:UInt64×Int)=>[(1,vS a1),(12,v1),(13,vI (a1.length:Int)),(5,vW s.1),(14,vI s.2)]) (Lf:=fun (s:UInt64×Int)=>OwS false 5 1 eY v1 a1::F) (((a1.length:Int)-0).toNat+1) (14695981039346656037 ^^^ (CQ a0),0) hp4 ⟨z,z,z,z,z,trivial⟩ (fun _ h=>h) (fun _ h=>by cases h) fun k9 s hM11 => ?_
 obtain ⟨h_7,s_8⟩:=s
 have hm10:Dp a1 (k9+1) h_7 s_8=some p3:=hM11
 rw [Dp] at hm10
 refine csr ?_
 refine r_bin z z (bI_lt _ _) ?_
 refine r_nil (x_seq (c_seq ?_))
 refine c_if (b:=decide (s_8<(a1.length:Int))) z (fun h12 => ?_) fun h12 => ?_
 ·have hm13:=ift hm10 h12
  refine c_skip (x_seq (c_seq (c_blk (csr ?_))))
  obtain ⟨x14,hx14,hm15⟩:=bs hm13
  refine r_u (o_ixO 0 Tryz.underlying131 (fun _=>by kernel_rfl) z z z hx14) (r_u (o_ldO0 0 sc5 z z hx14 z z) (r_as z ?_))
  refine r_nil (x_seq (c_reg ?_))
  refine r_mv z (r_mv z (r_u (o_cv z (cYW Tryz.underlying5 Tryz.underlying22 x14)) (r_bin z z (bW_xor _ _) (r_bin z z (bW_mul _ 1099511628211) (r_as z ?_)))))
  refine r_nil (x_blk (x_seq (c_reg ?_)))
  refine r_bin z z (bI_add _ 1) (r_mv z ?_)
  refine r_nil ?_
  exact x_lp ((h_7 ^^^ x14.toUInt64)*1099511628211,i64 (s_8+1)) hm15 ⟨z,z,z,z,z,trivial⟩ (pk 1 [0])
 have hm13:=iff_ hm10 h12
 refine c_exit (x_exit (ks':=_) z ?_)
 obtain rfl:=si hm13
 exact x_sub K6 ⟨z,z,trivial⟩ (pk 1 [0])
def Du(a0:UInt64)(a1:UInt64):UInt64×UInt64 :=
 ((((shWr a0 ((32:UInt64).toNat:Int))*(shWr a1 ((32:UInt64).toNat:Int)))+(shWr (((shWr a0 ((32:UInt64).toNat:Int))*(a1 &&& 4294967295))+(shWr ((a0 &&& 4294967295)*(a1 &&& 4294967295)) ((32:UInt64).toNat:Int))) ((32:UInt64).toNat:Int)))+(shWr (((((shWr a0 ((32:UInt64).toNat:Int))*(a1 &&& 4294967295))+(shWr ((a0 &&& 4294967295)*(a1 &&& 4294967295)) ((32:UInt64).toNat:Int))) &&& 4294967295)+((a0 &&& 4294967295)*(shWr a1 ((32:UInt64).toNat:Int)))) ((32:UInt64).toNat:Int)),a0*a1)
theorem Du.ok{G R F}(a0:UInt64)(a1:UInt64)(r:UInt64×UInt64)(hm:Du a0 a1=r):CO Tryz.prog 248 [vW a0,vW a1] G R (F)
  (Ret fun u R' L'=>u = .tuple #[vW r.1,vW r.2]∧R'=R∧L'=F):=by
 unfold Du at hm
 refine co_ofN (N:=51) Tryz.func248 z z ?_
 refine csr ?_
 refine r_as z (r_as z ?_)
 refine nsr ?_
 refine r_mv z (r_bin z z (bW_and a0 4294967295) (r_as z ?_))
 refine nsr ?_
 refine r_mv z (r_bin z z (bWW_shr a0 32) (r_as z ?_))
 refine nsr ?_
 refine r_mv z (r_bin z z (bW_and a1 4294967295) (r_as z ?_))
 refine nsr ?_
 refine r_mv z (r_bin z z (bWW_shr a1 32) (r_as z ?_))
 refine nsr ?_
 refine r_mv z (r_mv z (r_bin z z (bW_mul _ _) (r_as z ?_)))
 refine nsr ?_
 refine r_mv z (r_mv z (r_bin z z (bW_mul _ _) (r_mv z (r_bin z z (bWW_shr ((a0 &&& 4294967295)*(a1 &&& 4294967295)) 32) (r_u (o_bin z z (bW_add _ _)) (r_as z ?_))))))
 refine nsr ?_
 refine r_mv z (r_u (o_bin z z (bW_and _ 4294967295)) (r_as z ?_))
 refine nsr ?_
 refine r_mv z (r_u (o_bin z z (bWW_shr (((shWr a0 ((32:UInt64).toNat:Int))*(a1 &&& 4294967295))+(shWr ((a0 &&& 4294967295)*(a1 &&& 4294967295)) ((32:UInt64).toNat:Int))) 32)) (r_as z ?_))
 refine nsr ?_
 refine r_mv z (r_mv z (r_mv z (r_bin z z (bW_mul _ _) (r_u (o_bin z z (bW_add _ _)) (r_as z ?_)))))
 refine nsr ?_
 refine r_mv z (r_mv z (r_bin z z (bW_mul _ _) (r_mv z (r_u (o_bin z z (bW_add _ _)) (r_mv z (r_u (o_bin z z (bWW_shr (((((shWr a0 ((32:UInt64).toNat:Int))*(a1 &&& 4294967295))+(shWr ((a0 &&& 4294967295)*(a1 &&& 4294967295)) ((32:UInt64).toNat:Int))) &&& 4294967295)+((a0 &&& 4294967295)*(shWr a1 ((32:UInt64).toNat:Int)))) 32)) (r_u (o_bin z z (bW_add _ _)) (r_as z ?_))))))))
 refine nsr ?_
 refine r_mv z (r_mv z (r_bin z z (bW_mul a0 a1) (r_as z ?_)))
 refine r_nil (x_seq (c_ret ?_))
 subst hm
 exact x_r2 z (rv_t z) (rv_t z) le_ ⟨_,z,z,z,z⟩
def Dq(a0:UInt64)(a1:Int)(a2:Int):Int :=
 if decide (a2<1) then 0 else lt (Du (CQ (a0+((toW a1)*11400714819323198485))) (toW a2)) fun r2=>i64 (r2.1.toNat:Int)
theorem Dq.ok{G R F}(a0:UInt64)(a1:Int)(a2:Int)(r:Int)(hm:Dq a0 a1 a2=r):CO Tryz.prog 239 [vW a0,vI a1,vI a2] G R (F)
  (Ret fun u R' L'=>u=vI r∧R'=R∧L'=F):=by
 unfold Dq at hm
 refine co_ofN (N:=25) Tryz.func239 z z ?_
 refine csr ?_
 refine r_as z ?_
 refine nssr ?_
 refine r_mv z (r_bin z z (bI_lt a2 1) ?_)
 refine nsq ?_
 refine c_if (b:=decide (a2<1)) z (fun h0 => ?_) fun h0 => ?_
 ·have hm1:=ift hm h0
  refine csr ?_
  refine r_as z ?_
  refine r_nil (x_seq (c_ret ?_))
  subst hm1
  exact x_r1 z (rv_t z) le_ ⟨_,z,z,z,z⟩
 have hm1:=iff_ hm h0
 refine c_skip (x_seq (csr ?_))
 refine r_mv z (r_mv z (r_u (o_cv z (cIW Tryz.underlying3 Tryz.underlying22 a1)) (r_bin z z (bW_mul _ 11400714819323198485) (r_bin z z (bW_add a0 _) ?_))))
 refine r_u (o_callq ca249 z (CQ.ok (a0+((toW a1)*11400714819323198485)) _ z)) (r_mv z (r_u (o_cv z (cIW Tryz.underlying3 Tryz.underlying22 a2)) ?_))
 obtain ⟨r2,hr2,hm3⟩:=ltx hm1
 refine r_u (o_callq ca248 z (Du.ok _ _ _ hr2)) (r_mv z ?_)
 refine r_ext z z ?_
 refine r_ext z z (r_as z (r_as z ?_))
 refine nsr ?_
 refine r_mv z (r_u (o_cv z (cWI Tryz.underlying22 Tryz.underlying3 r2.1)) (r_as z ?_))
 refine r_nil (x_seq (c_ret ?_))
 subst hm3
 exact x_r1 z (rv_t z) le_ ⟨_,z,z,z,z⟩
def A9(a0:Ae)(a1:Str)(a2:Int):Option Int :=
 (DF a0.seed a1).bind fun r2=>some (Dq r2 a2 a0.wide)
theorem A9.ok{G R F}(b0_:Nat)(a0:Ae)(g0_:Ae.G)(a1:Str)(a2:Int)(r:Int)(hm:A9 a0 a1 a2=some r):CO Tryz.prog 207 [pt b0_ 0,vS a1,vI a2] G R (Bk b0_ 250 (Ae.k a0 g0_)::OwL (OwS false 5 1 eY) [g0_.rows.1,g0_.rows.2.1,g0_.rows.2.2.1,g0_.rows.2.2.2] a0.rows::OwS true 4 1 eB g0_.door a0.door::F)
  (Ret fun u R' L'=>u=vI r∧R'=R∧L'=Bk b0_ 250 (Ae.k a0 g0_)::OwL (OwS false 5 1 eY) [g0_.rows.1,g0_.rows.2.1,g0_.rows.2.2.1,g0_.rows.2.2.2] a0.rows::OwS true 4 1 eB g0_.door a0.door::F):=by
 unfold A9 at hm
 refine co_ofN (N:=19) Tryz.func207 z z ?_
 refine csr ?_
 refine r_as z ?_
 refine r_nil (x_seq (c_seq ?_))
 obtain ⟨r2,hr2,hm3⟩:=bs hm
 refine c_any mixed (effs:=[]) (V:=[]) ?_
 refine stn [0,1,3,7,0,31,0,0,128,384,896,2047,4095] [0,1,2,3,4,5,6,7,8,9,10,11,12] [] [_,_,_,_,_,_,_,_,_,_,_,_,_] (q_mv z z z (q_u z z (o_nc z) (q_fa z z fa250_1 z (q_ld z z 0 sc22 z z z (q_mv z z z (q_u z z (o_callq ca240 z (DF.ok _ a1 _ hr2)) (q_mv z z z (q_mv z z z (q_u z z (o_nc z) (q_fa z z fa250_0 z (q_ld z z 0 sc3 z z z (q_u z z (o_callq ca239 z (Dq.ok r2 a2 a0.wide _ z)) (q_u z z (o_as z) qn))))))))))))) en ?_
 intro _
 refine ex_sub (E':=[(6,vI (Dq r2 a2 a0.wide))]) ⟨z,trivial⟩ ?_
 refine x_seq (c_ret ?_)
 obtain rfl:=si hm3
 exact x_r1 z (rv_t z) le_ ⟨_,z,z,z,z⟩
def Bi(a0:Ae)(a1:Str):Nat→UInt8→Int→Option (UInt8)
 | 0,_,_=>none
 | k8+1,n_6,s_7=>if decide (s_7<4) then (gi a0.rows s_7).bind fun y13=>(A9 a0 a1 s_7).bind fun r16=>(gi y13 r16).bind fun x18=>Bi a0 a1 k8 (if x18<n_6 then x18 else n_6) (i64 (s_7+1)) else some n_6
def Bs(a0:Ae)(a1:Str):Option UInt8 :=
 Option.bind (Bi a0 a1 5 15 0) fun p2=>some p2
theorem Bs.ok{G R F}(b0_:Nat)(a0:Ae)(g0_:Ae.G)(a1:Str)(r:UInt8)(hm:Bs a0 a1=some r):CO Tryz.prog 208 [pt b0_ 0,vS a1] G R (Bk b0_ 250 (Ae.k a0 g0_)::OwL (OwS false 5 1 eY) [g0_.rows.1,g0_.rows.2.1,g0_.rows.2.2.1,g0_.rows.2.2.2] a0.rows::OwS true 4 1 eB g0_.door a0.door::F)
  (Ret fun u R' L'=>u=vY r∧R'=R∧L'=Bk b0_ 250 (Ae.k a0 g0_)::OwL (OwS false 5 1 eY) [g0_.rows.1,g0_.rows.2.1,g0_.rows.2.2.1,g0_.rows.2.2.2] a0.rows::OwS true 4 1 eB g0_.door a0.door::F):=by
 unfold Bs at hm
 refine co_ofN (N:=26) Tryz.func208 z z ?_
 refine csr ?_
 refine r_as z ?_
 refine nsr ?_
 refine r_as z ?_
 refine nssr ?_
 refine r_mv z ?_
 refine nsq ?_
 obtain ⟨p2,hp3,hm4⟩:=bs hm
 refine cd_join (E':=[(5,vY p2)]) (L':=Bk b0_ 250 (Ae.k a0 g0_)::OwL (OwS false 5 1 eY) [g0_.rows.1,g0_.rows.2.1,g0_.rows.2.2.1,g0_.rows.2.2.2] a0.rows::OwS true 4 1 eB g0_.door a0.door::F) ?_ fun K5 => ?_
 ·refine x_seq (csr ?_)
  refine r_mv z (r_as z ?_)
  refine r_nil (x_seq (c_ret ?_))
  obtain rfl:=si hm4
  exact x_r1 z (rv_t z) le_ ⟨_,z,z,z,z⟩
 refine c_blk ?_
 refine cd_loop (M:=fun k8 (s:UInt8×Int)=>Bi a0 a1 k8 s.1 s.2=some p2) (Ef:=fun (s:UInt8×Int)=>[(0,pt b0_ 0),(1,vS a1),(5,vY s.1),(7,vI s.2)]) (Lf:=fun (s:UInt8×Int)=>Bk b0_ 250 (Ae.k a0 g0_)::OwL (OwS false 5 1 eY) [g0_.rows.1,g0_.rows.2.1,g0_.rows.2.2.1,g0_.rows.2.2.2] a0.rows::OwS true 4 1 eB g0_.door a0.door::F) 5 (15,0) hp3 ⟨z,z,z,z,trivial⟩ (fun _ h=>h) (fun _ h=>by cases h) fun k8 s hM10 => ?_
 obtain ⟨n_6,s_7⟩:=s
 have hm9:Bi a0 a1 (k8+1) n_6 s_7=some p2:=hM10
 rw [Bi] at hm9
 refine csr ?_
 refine r_bin z z (bI_lt _ 4) ?_
 refine r_nil (x_seq (c_seq ?_))
 refine c_if (b:=decide (s_7<4)) z (fun h11 => ?_) fun h11 => ?_
 rotate_left
 ·have hm12:=iff_ hm9 h11
  refine c_exit (x_exit (ks':=_) z ?_)
  obtain rfl:=si hm12
  exact x_sub K5 ⟨z,trivial⟩ (pk 3 [0,1,2])
 have hm12:=ift hm9 h11
 refine c_skip (x_seq (c_seq (c_blk (csr ?_))))
 refine r_mv z (r_as z ?_)
 refine nsq ?_
 obtain ⟨y13,hy13,hm15⟩:=bs hm12
 refine cd_ex (fun w h=>st_peek 1 hy13 z w h) fun u14 hu14 => ?_
 obtain ⟨r16,hr16,hm17⟩:=bs hm15
 obtain ⟨x18,hx18,hm19⟩:=bs hm17
 refine c_any mixed (effs:=[]) (V:=[]) ?_
 refine stn [0,0,0,2,10,30,62,0,0,0,896,2046,4094,8191,16383] [0,1,2,3,4,5,6,7,8,9,10,11,12,13,14] [] [_,_,_,_,_,_,_,_,_,_,_,_,_,_,_] (q_mv z z z (q_mv z z z (q_mv z z z (q_u z z (o_nc z) (q_fa z z fa250_2 z (q_u z z (o_ixA (sz:=1) Tryz.underlying248 (fun _=>by kernel_rfl) z z (gi_some hu14).1) (q_u z z (o_ldA (o:=2) (n:=4) 0 sc131 z z hu14) (q_mv z z z (q_mv z z z (q_mv z z z (q_u z z (o_callqP ca207 z (A9.ok b0_ a0 g0_ a1 _ _ hr16) (pk 3 [0,1,2]) (pk 3 [0,1,2])) (q_u z z (o_ixK (kn_in 1 z hu14 hy13) Tryz.underlying131 (fun _=>by kernel_rfl) z z hx18) (q_u z z (o_ldK (kn_in 1 z hu14 hy13) 0 sc5 z hx18 z z) (q_u z z (o_minY z z) (q_u z z (o_as z) qn))))))))))))))) en ?_
 intro _
 refine ex_sub (E':=[(0,pt b0_ 0),(1,vS a1),(5,vY (if x18<n_6 then x18 else n_6)),(7,vI s_7)]) ⟨z,z,z,z,trivial⟩ ?_
 refine x_blk (x_seq (c_reg ?_))
 refine r_bin z z (bI_add _ 1) (r_mv z ?_)
 refine r_nil ?_
 exact x_lp ((if x18<n_6 then x18 else n_6),i64 (s_7+1)) hm19 ⟨z,z,z,z,trivial⟩ (pk 3 [0,1,2])
def Bm(s_6:Int)(y17:List UInt8):Nat→Int→(List (List UInt8))→Option (List (List UInt8))
 | 0,_,_=>none
 | k26+1,s_24,c_25=>if decide (s_24<(y17.length:Int)) then (gi c_25 s_6).bind fun y31=>(gi y31 s_24).bind fun x34=>Bm s_6 y17 k26 (i64 (s_24+1)) (ls c_25 s_6 (ls y31 s_24 (x34/2))) else some c_25
def Bw : Nat→Int→(List (List UInt8))→Option (List (List UInt8))
 | 0,_,_=>none
 | k8+1,s_6,c_7=>if decide (s_6<4) then Option.bind ((gi c_7 s_6).bind fun y17=>Option.bind (Bm s_6 y17 (((y17.length:Int)-0).toNat+1) 0 c_7) fun p20=>some p20) fun p13=>Bw k8 (i64 (s_6+1)) p13 else some c_7
def B9(a0:Ae):Option Ae :=
 Option.bind (Bw 5 0 a0.rows) fun p2=>some (⟨a0.wide,a0.seed,p2,List.replicate a0.door.length false,i64 (a0.added.tdiv 2)⟩:Ae)
theorem B9.ok{G R F}(b0_:Nat)(a0:Ae)(g0_:Ae.G)(r:Ae)(hm:B9 a0=some r):CO Tryz.prog 209 [pt b0_ 0] G R (Bk b0_ 250 (Ae.k a0 g0_)::OwL (OwS false 5 1 eY) [g0_.rows.1,g0_.rows.2.1,g0_.rows.2.2.1,g0_.rows.2.2.2] a0.rows::OwS true 4 1 eB g0_.door a0.door::F)
  (Ret fun u R' L'=>u = .tuple #[]∧R'=R∧L'=Bk b0_ 250 (Ae.k r g0_)::OwL (OwS false 5 1 eY) [g0_.rows.1,g0_.rows.2.1,g0_.rows.2.2.1,g0_.rows.2.2.2] r.rows::OwS true 4 1 eB g0_.door r.door::F):=by
 unfold B9 at hm
 refine co_ofN (N:=43) Tryz.func209 z z ?_
 refine c_seq (csr ?_)
 refine r_mv z (r_bin z z (bP_eqp Tryz.underlying194) ?_)
 refine nsq ?_
 refine c_ff z ?_
 refine c_skip (x_seq (c_seq (csr ?_)))
 refine r_mv z ?_
 refine nsq ?_
 obtain ⟨p2,hp3,hm4⟩:=bs hm
 refine cd_join (E':=[(0,pt b0_ 0)]) (L':=Bk b0_ 250 (Ae.k a0 g0_)::OwL (OwS false 5 1 eY) [g0_.rows.1,g0_.rows.2.1,g0_.rows.2.2.1,g0_.rows.2.2.2] p2::OwS true 4 1 eB g0_.door a0.door::F) ?_ fun K5 => ?_
 ·refine x_seq (csr ?_)
  refine r_mv z (r_nc z (r_fa fa250_3 z (r_ld 0 sc68 z z z ?_)))
  refine rl_st (fun _ h=>mv2 h) ?_
  refine r_u0 (o_clr (e:=4) (z1:=false) Tryz.underlying68 z z z z ⟨_,z,z⟩ z z) ?_
  refine r_nil (x_seq (c_reg ?_))
  refine r_mv z (r_nc z (r_fa fa250_4 z (r_ld 1 sc3 z z z (r_bin z z (bI_quo _ 2 (by decide)) (r_nc z (r_fa fa250_4 z ?_))))))
  refine rl_st (fun _ h=>mv1 h) ?_
  refine r_u0 (o_st sc3 z z z z z z) ?_
  refine r_nil ?_
  refine x_end ?_
  obtain rfl:=si hm4
  refine ex_st (pk 3 [0,2,1]) ?_
  exact x_r0 z le_ ⟨_,z,z,z,z⟩
 refine c_blk ?_
 refine cd_loop (M:=fun k8 (s:Int×List (List UInt8))=>Bw k8 s.1 s.2=some p2) (Ef:=fun (s:Int×List (List UInt8))=>[(0,pt b0_ 0),(6,vI s.1)]) (Lf:=fun (s:Int×List (List UInt8))=>Bk b0_ 250 (Ae.k a0 g0_)::OwL (OwS false 5 1 eY) [g0_.rows.1,g0_.rows.2.1,g0_.rows.2.2.1,g0_.rows.2.2.2] s.2::OwS true 4 1 eB g0_.door a0.door::F) 5 (0,a0.rows) hp3 ⟨z,z,trivial⟩ (fun _ h=>h) (fun _ h=>by cases h) fun k8 s hM10 => ?_
 obtain ⟨s_6,c_7⟩:=s
 have hm9:Bw (k8+1) s_6 c_7=some p2:=hM10
 rw [Bw] at hm9
 refine csr ?_
 refine r_bin z z (bI_lt _ 4) ?_
 refine r_nil (x_seq (c_seq ?_))
 refine c_if (b:=decide (s_6<4)) z (fun h11 => ?_) fun h11 => ?_
 rotate_left
 ·have hm12:=iff_ hm9 h11
  refine c_exit (x_exit (ks':=_) z ?_)
  obtain rfl:=si hm12
  exact x_sub K5 ⟨z,trivial⟩ (pk 3 [0,1,2])
 have hm12:=ift hm9 h11
 refine c_skip (x_seq (c_seq ?_))
 obtain ⟨p13,hp14,hm15⟩:=bs hm12
 refine cd_join (E':=[(0,pt b0_ 0),(6,vI s_6)]) (L':=Bk b0_ 250 (Ae.k a0 g0_)::OwL (OwS false 5 1 eY) [g0_.rows.1,g0_.rows.2.1,g0_.rows.2.2.1,g0_.rows.2.2.2] p13::OwS true 4 1 eB g0_.door a0.door::F) ?_ fun K16 => ?_
 ·refine x_seq (c_reg ?_)
  refine r_bin z z (bI_add _ 1) (r_mv z ?_)
  refine r_nil ?_
  exact x_lp (i64 (s_6+1),p13) hm15 ⟨z,z,trivial⟩ (pk 3 [0,1,2])
 refine c_blk (csr ?_)
 refine r_mv z (r_as z ?_)
 refine nsr ?_
 refine r_mv z (r_mv z (r_nc z (r_fa fa250_2 z ?_)))
 obtain ⟨y17,hy17,hm19⟩:=bs hp14
 refine rl_ex (fun w h=>st_peek 1 hy17 z w h) fun u18 hu18 => ?_
 refine r_u (o_ixA (sz:=1) Tryz.underlying248 (fun _=>by kernel_rfl) z z (gi_some hu18).1) ?_
 refine r_u (o_ldA (o:=2) (n:=4) 0 sc131 z z hu18) ?_
 refine r_u (o_lenK (kn_in 1 z hu18 hy17) Tryz.underlying131 z) (r_mv z ?_)
 refine nsq ?_
 obtain ⟨p20,hp21,hm22⟩:=bs hm19
 refine cd_join (E':=[(0,pt b0_ 0),(6,vI s_6)]) (L':=Bk b0_ 250 (Ae.k a0 g0_)::OwL (OwS false 5 1 eY) [g0_.rows.1,g0_.rows.2.1,g0_.rows.2.2.1,g0_.rows.2.2.2] p20::OwS true 4 1 eB g0_.door a0.door::F) ?_ fun K23 => ?_
 ·refine x_blk ?_
  obtain rfl:=si hm22
  exact x_sub K16 ⟨z,z,trivial⟩ (pk 3 [0,1,2])
 refine c_blk ?_
 refine cd_loop (M:=fun k26 (s:Int×List (List UInt8))=>Bm s_6 y17 k26 s.1 s.2=some p20) (Ef:=fun (s:Int×List (List UInt8))=>[(0,pt b0_ 0),(2,vI s_6),(6,vI s_6),(15,vI (y17.length:Int)),(16,vI s.1)]) (Lf:=fun (s:Int×List (List UInt8))=>Bk b0_ 250 (Ae.k a0 g0_)::OwL (OwS false 5 1 eY) [g0_.rows.1,g0_.rows.2.1,g0_.rows.2.2.1,g0_.rows.2.2.2] s.2::OwS true 4 1 eB g0_.door a0.door::F) (((y17.length:Int)-0).toNat+1) (0,c_7) hp21 ⟨z,z,z,z,z,trivial⟩ (fun _ h=>h) (fun _ h=>by cases h) fun k26 s hM28 => ?_
 obtain ⟨s_24,c_25⟩:=s
 have hm27:Bm s_6 y17 (k26+1) s_24 c_25=some p20:=hM28
 rw [Bm] at hm27
 refine csr ?_
 refine r_bin z z (bI_lt _ _) ?_
 refine r_nil (x_seq (c_seq ?_))
 refine c_if (b:=decide (s_24<(y17.length:Int))) z (fun h29 => ?_) fun h29 => ?_
 rotate_left
 ·have hm30:=iff_ hm27 h29
  refine c_exit (x_exit (ks':=_) z ?_)
  obtain rfl:=si hm30
  exact x_sub K23 ⟨z,z,trivial⟩ (pk 3 [0,1,2])
 have hm30:=ift hm27 h29
 refine c_skip (x_seq (c_seq (c_blk (csr ?_))))
 refine r_mv z (r_as z ?_)
 refine r_nil (x_seq (c_reg ?_))
 refine r_mv z (r_mv z (r_nc z (r_fa fa250_2 z ?_)))
 obtain ⟨y31,hy31,hm33⟩:=bs hm30
 refine rl_ex (fun w h=>st_peek 1 hy31 z w h) fun u32 hu32 => ?_
 refine r_u (o_ixA (sz:=1) Tryz.underlying248 (fun _=>by kernel_rfl) z z (gi_some hu32).1) ?_
 refine r_u (o_ldA (o:=2) (n:=4) 0 sc131 z z hu32) (r_mv z ?_)
 obtain ⟨x34,hx34,hm35⟩:=bs hm33
 refine r_u (o_ixK (kn_in 1 z hu32 hy31) Tryz.underlying131 (fun _=>by kernel_rfl) z z hx34) ?_
 refine r_u (o_ldK (kn_in 1 z hu32 hy31) 0 sc5 z hx34 z z) (r_bin z z (bY_quo _ 2 (by decide)) ?_)
 refine r_u (o_ixK (kn_in 1 z hu32 hy31) Tryz.underlying131 (fun _=>by kernel_rfl) z z hx34) ?_
 refine rl_st (fun _ h=>mv1 h) ?_
 refine r_u0 (o_stL (c':=x34/2) 0 hu32 hy31 sc5 z z z hx34 z z z) ?_
 refine r_nil (x_blk (x_seq (c_reg ?_)))
 refine r_bin z z (bI_add _ 1) (r_mv z ?_)
 refine r_nil ?_
 exact x_lp (i64 (s_24+1),ls c_25 s_6 (ls y31 s_24 (x34/2))) hm35 ⟨z,z,z,z,z,trivial⟩ (pk 3 [1,0,2])
end Go.Proofs.YtpanhdnglicknaaGreat
