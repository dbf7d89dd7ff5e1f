import Derived.Test.YtpanhdnglicknaaGreatFacts
import Derived.Test.YtpanhdnglicknaaGreatHwZ
import Derived.Test.YtpanhdnglicknaaGreatHwW
import Derived.Test.YtpanhdnglicknaaGreatHw8
set_option linter.unusedVariables false
set_option linter.unusedSectionVars false
set_option linter.unusedSimpArgs false
set_option maxRecDepth 100000
set_option maxHeartbeats 4000000
namespace Go.Proofs.YtpanhdnglicknaaGreat
open _root_.Go.Proofs.Tryz Go Go.Proofs.YtpanhdnglicknaaGreat.Hw
theorem noEsc(v:Value)(w:World):(callFunc 187 #[v]).run prog w = .ok (.value v) w:=by
 rw [run_callFunc_extern func187 (by kernel_rfl) (by kernel_rfl) (by kernel_rfl) (e:=Extern.AbiNoEscape.same) (by kernel_rfl),Lib.run_noEscape]
 rfl
theorem infoB:∃j,prog.info? 167=some j∧j.size≠0:=⟨_,rfl,by decide⟩
theorem bld_copyCheck.ok{G R F}(b:Nat)(p v:Value)(hp:p=nl∨p=pt b 0):CO prog 144 [pt b 0] G R (Blk b (.cells (List.toArray [p,v]) 167 (0,0))::F)
  (Ret fun u R' L'=>u = .tuple #[]∧R'=R∧L'=Blk b (.cells (List.toArray [pt b 0,v]) 167 (0,0))::F):=by
 obtain ⟨j,hj,hj0⟩:=infoB
 refine co_ofN (N:=20) func144 rfl rfl ?_
 refine c_seq (c_reg ?_)
 refine r_u (o_mv rfl) ?_
 refine r_u (o_nc rfl) ?_
 refine r_u (o_fa fa167_0 rfl) ?_
 refine r_u (o_ld 0 sc165 rfl rfl rfl) ?_
 rcases hp with rfl | rfl
 ·refine r_u (o_bin rfl rfl (bP_eqn underlying165)) (r_nil (x_seq ?_))
  refine c_tt rfl ?_
  refine c_reg ?_
  refine r_u (o_mv rfl) ?_
  refine r_u (o_mv rfl) ?_
  refine r_u (o_tu 0 underlying165 underlying259 hj hj0 rfl rfl rfl) ?_
  refine r_u (o_same noEsc rfl) ?_
  refine r_u (o_fu 0 underlying259 underlying165 hj rfl rfl (by kernel_rfl)) ?_
  refine r_u (o_nc rfl) ?_
  refine r_u (o_fa fa167_0 rfl) ?_
  refine r_u0 (o_st sc165 rfl rfl rfl rfl rfl rfl) (r_nil ?_)
  refine x_end ?_
  exact x_r0 rfl le_ ⟨_,rfl,rfl,rfl,rfl⟩
 ·refine r_u (o_bin rfl rfl (bP_eqp underlying165)) (r_nil (x_seq (c_ff rfl (c_seq (c_reg ?_)))))
  refine r_u (o_mv rfl) ?_
  refine r_u (o_nc rfl) ?_
  refine r_u (o_fa fa167_0 rfl) ?_
  refine r_u (o_ld 0 sc165 rfl rfl rfl) ?_
  refine r_u (o_mv rfl) ?_
  refine r_u (o_bin rfl rfl (bP_same underlying165 hj)) (r_nil (x_seq (c_ff rfl (c_skip ?_))))
  refine x_end ?_
  exact x_r0 rfl le_ ⟨_,rfl,rfl,rfl,rfl⟩
theorem bld_WriteByte.ok{G R F}(b:Nat)(s:Str)(c:UInt8)(r:Str)(hm:apd 1 s [c]=some r):CO prog 88 [pt b 0,vY c] G R (Bld 167 5 b s::F)
  (Ret fun u R' L'=>u = .nilIface∧R'=R∧L'=Bld 167 5 b r::F):=by
 refine co_ofN (N:=17) func88 rfl rfl ?_
 refine bld_open_cd fun p v hp hv =>?_
 refine c_seq (c_reg ?_)
 refine r_u (o_as rfl) (r_nil (x_seq (c_seq (c_reg ?_))))
 refine r_u (o_mv rfl) ?_
 refine r_c (s_w (o_call ca144 rfl (bld_copyCheck.ok b p v hp))) ?_
 refine r_nil (x_seq (c_seq (c_reg ?_)))
 refine r_u (o_mv rfl) ?_
 refine r_u (o_mv rfl) ?_
 refine r_u (o_nc rfl) ?_
 refine r_u (o_fa fa167_1 rfl) ?_
 refine r_u (o_ld 0 sc131 rfl rfl rfl) ?_
 refine r_u (o_mv rfl) ?_
 refine r_sw (s_w (o_bsl (en:=eY) (sz:=1) (e:=5) (cs:=[vY c]) (r:=[c]) rfl kr rfl (by decide) rfl (fun _=>rfl))) ?_
 rintro v2 _ _ _ ⟨rfl,rfl⟩
 refine rl_st (pk 3 [2,0,1]) ?_
 refine r_sw (s_w (o_ap (sz:=1) (bytes:=1) 0 underlying131 rfl rfl rfl rfl rfl (by decide) (by decide) (fun _ _ _ h=>by simp at h;subst h;rfl) (fun _=>rfl) rfl rfl rfl rfl (Nat.succ_pos _) hm)) ?_
 rintro v3 _ _ _ ⟨rfl,rfl⟩
 refine r_u (o_nc rfl) ?_
 refine r_u (o_fa fa167_1 rfl) ?_
 refine rl_st (pk 3 [2,0]) ?_
 refine r_u0 (o_stS 1 sc131 rfl rfl rfl rfl rfl rfl) (r_nil (x_seq (c_seq (c_reg ?_))))
 refine r_u (o_as rfl) (r_nil (x_seq ?_))
 refine c_ret ?_
 refine ex_st (fun _ h=>bld_close (.inr rfl) (fun e=>by unfold apd at hm;split at hm <;> simp_all) h) ?_
 exact x_r1 rfl (rv_t rfl) le_ ⟨_,rfl,rfl,rfl,rfl⟩
theorem bld_String.ok{G R F}(b:Nat)(s:Str):CO prog 89 [pt b 0] G R (Bld 167 5 b s::F)
  (Ret fun u R' L'=>u=vS s∧R'=R∧L'=F):=by
 refine co_ofN (N:=14) func89 rfl rfl ?_
 refine bld_open_cd fun p v hp hv =>?_
 refine c_seq (c_reg ?_)
 refine r_u (o_as rfl) (r_nil (x_seq (c_seq ?_)))
 by_cases hs:s=[]
 ·obtain rfl:=hv hs
  subst hs
  refine c_any mixed (effs:=[]) (V:=[]) ?_
  refine stage_ext [(0,pt b 0),(1,pt b 0),(2,pt b 1),(3,.slice none 0 0),(4,nl),(5,pt b 0),(6,pt b 0),(7,pt b 1),(8,.slice none 0 0),(9,vI 0),(10,vS []),(11,vS [])] rfl ?_
  refine stage rfl rfl rfl rfl [0,1,3,7,15,0,32,96,224,480,1023,2047] [0,1,2,3,4,5,6,7,8,9,10,11] [] rfl rfl rfl (qc rfl rfl (s_u (o_mv rfl)) (qc rfl rfl (s_u (o_nc rfl)) (qc rfl rfl (s_u (o_fa fa167_1 rfl)) (qc rfl rfl (s_u (o_ld 0 sc131 rfl rfl rfl)) (qc rfl rfl (s_u (o_sdn rfl)) (qc rfl rfl (s_u (o_mv rfl)) (qc rfl rfl (s_u (o_nc rfl)) (qc rfl rfl (s_u (o_fa fa167_1 rfl)) (qc rfl rfl (s_u (o_ld 0 sc131 rfl rfl rfl)) (qc rfl rfl (s_u (o_lenN underlying131 rfl)) (qc rfl rfl (s_u (o_usn rfl rfl)) (qc rfl rfl (s_u (o_as rfl)) qn)))))))))))) en ?_
  intro _
  refine ex_sub (E':=[(2,vS [])]) ⟨rfl,y_⟩ ?_
  refine x_seq ?_
  refine c_ret ?_
  refine ex_st (pk 2 []) ?_
  exact x_r1 rfl (rv_t rfl) le_ ⟨_,rfl,rfl,rfl,rfl⟩
 ·refine c_any mixed (effs:=[10]) (V:=[]) ?_
  refine stage_ext [(0,pt b 0),(1,pt b 0),(2,pt b 1),(3,v),(4,pt (sb v) 0),(5,pt b 0),(6,pt b 0),(7,pt b 1),(8,v),(9,vI s.length)] rfl ?_
  refine stage_st (pk 2 [1,0]) ?_
  refine stage rfl rfl rfl rfl [0,1,3,7,15,0,32,96,224,480,1023,2047] [0,1,2,3,4,5,6,7,8,9] [10] rfl rfl rfl (qc rfl rfl (s_u (o_mv rfl)) (qc rfl rfl (s_u (o_nc rfl)) (qc rfl rfl (s_u (o_fa fa167_1 rfl)) (qc rfl rfl (s_u (o_ld 1 sc131 rfl rfl rfl)) (qc rfl rfl (s_u (o_sd 0 rfl rfl hs)) (qc rfl rfl (s_u (o_mv rfl)) (qc rfl rfl (s_u (o_nc rfl)) (qc rfl rfl (s_u (o_fa fa167_1 rfl)) (qc rfl rfl (s_u (o_ld 1 sc131 rfl rfl rfl)) (qc rfl rfl (s_u (o_lenO 0 underlying131 rfl rfl)) qn)))))))))) ?_ (fun h=>absurd h (by decide))
  refine ec (eo_u rfl (s_u (o_us underlying222 (by kernel_rfl) rfl rfl rfl hs)) le_ ?_) en
  refine stage_ext [(11,vS s)] rfl ?_
  refine stage rfl rfl rfl rfl [0,1,3,7,15,0,32,96,224,480,1023,2047] [11] [] rfl rfl rfl (qc rfl rfl (s_u (o_as rfl)) qn) en ?_
  intro _
  refine ex_sub (E':=[(2,vS s)]) ⟨rfl,y_⟩ ?_
  refine x_seq ?_
  refine c_ret ?_
  refine ex_st (pk 1 []) ?_
  exact x_r1 rfl (rv_t rfl) le_ ⟨_,rfl,rfl,rfl,rfl⟩
structure Au where
 Policy:Int
 Entries:Int
 Bytes:Int
 Seed:UInt64
 deriving DecidableEq,Inhabited
def Au.c(x:Au):List _root_.Go.Value:=[vI x.Policy,vI x.Entries,vI x.Bytes,vW x.Seed]
abbrev Au.v(x:Au):_root_.Go.Value := .agg (Au.c x).toArray
structure AI where
 Kind:Int
 Key:Str
 Value:Str
 TTL:UInt64
 Version:UInt64
 deriving DecidableEq,Inhabited
def AI.c(x:AI):List _root_.Go.Value:=[vI x.Kind,vS x.Key,vS x.Value,vW x.TTL,vW x.Version]
abbrev AI.v(x:AI):_root_.Go.Value := .agg (AI.c x).toArray
structure AM where
 Ticks:UInt64
 Session:UInt64
 Num:UInt64
 Op:AI
 Skip:Int
 deriving DecidableEq,Inhabited
def AM.c(x:AM):List _root_.Go.Value:=[vW x.Ticks,vW x.Session,vW x.Num,vI x.Op.Kind,vS x.Op.Key,vS x.Op.Value,vW x.Op.TTL,vW x.Op.Version,vI x.Skip]
abbrev AM.v(x:AM):_root_.Go.Value := .agg (AM.c x).toArray
structure Ai where
 Key:Str
 Value:Str
 Version:UInt64
 End:UInt64
 deriving DecidableEq,Inhabited
def Ai.c(x:Ai):List _root_.Go.Value:=[vS x.Key,vS x.Value,vW x.Version,vW x.End]
abbrev Ai.v(x:Ai):_root_.Go.Value := .agg (Ai.c x).toArray
structure Am where
 m:List (Str×Ai)
 bytes:Int
 deriving DecidableEq,Inhabited
structure Am.G where
 m:_root_.Go.Value
instance:Inhabited Am.G:=⟨⟨nl⟩⟩
def Am.fl(b:Nat)(x:Am)(g:Am.G):List HP:=[Bk b 138 [g.m,vI x.bytes],OwM vS Ai.v g.m x.m]
def Am.op(g:Am.G):Nat→Am→HP:=fun b x=>star (Am.fl b x g)
structure Av where
 key:Str
 list:Int
 prev:Int
 next:Int
 deriving DecidableEq,Inhabited
def Av.c(x:Av):List _root_.Go.Value:=[vS x.key,vI x.list,vI x.prev,vI x.next]
abbrev Av.v(x:Av):_root_.Go.Value := .agg (Av.c x).toArray
structure Aj where
 lists:Int
 slots:List Av
 free:List Int
 at_:List (Str×Int)
 many:List Int
 deriving DecidableEq,Inhabited
structure Aj.G where
 slots:_root_.Go.Value
 free:_root_.Go.Value
 at_:_root_.Go.Value
 many:_root_.Go.Value
instance:Inhabited Aj.G:=⟨⟨nl,nl,nl,nl⟩⟩
def Aj.fl(b:Nat)(x:Aj)(g:Aj.G):List HP:=[Bk b 237 [vI x.lists,g.slots,g.free,g.at_,g.many],OwS true 240 4 Av.c g.slots x.slots,OwS true 3 1 eI g.free x.free,OwM vS vI g.at_ x.at_,OwS true 3 1 eI g.many x.many]
def Aj.op(g:Aj.G):Nat→Aj→HP:=fun b x=>star (Aj.fl b x g)
structure Aq where
 most:Int
 target:Int
 r:Option Aj
 deriving DecidableEq,Inhabited
structure Aq.G where
 r:_root_.Go.Value×Aj.G
instance:Inhabited Aq.G:=⟨⟨(nl,default)⟩⟩
def Aq.fl(b:Nat)(x:Aq)(g:Aq.G):List HP:=[Bk b 193 [vI x.most,vI x.target,g.r.1],rO (Aj.op g.r.2) g.r.1 x.r]
def Aq.op(g:Aq.G):Nat→Aq→HP:=fun b x=>star (Aq.fl b x g)
structure An where
 wide:Int
 seed:UInt64
 rows:List (List UInt8)
 door:List Bool
 added:Int
 deriving DecidableEq,Inhabited
structure An.G where
 rows:_root_.Go.Value×_root_.Go.Value×_root_.Go.Value×_root_.Go.Value
 door:_root_.Go.Value
instance:Inhabited An.G:=⟨⟨(nl,nl,nl,nl),nl⟩⟩
def An.fl(b:Nat)(x:An)(g:An.G):List HP:=[Bk b 250 [vI x.wide,vW x.seed,g.rows.1,g.rows.2.1,g.rows.2.2.1,g.rows.2.2.2,g.door,vI x.added],OwL (OwS false 5 1 eY) [g.rows.1,g.rows.2.1,g.rows.2.2.1,g.rows.2.2.2] x.rows,OwS true 4 1 eB g.door x.door]
def An.op(g:An.G):Nat→An→HP:=fun b x=>star (An.fl b x g)
structure Ao where
 most:Int
 s:Option An
 r:Option Aj
 deriving DecidableEq,Inhabited
structure Ao.G where
 s:_root_.Go.Value×An.G
 r:_root_.Go.Value×Aj.G
instance:Inhabited Ao.G:=⟨⟨(nl,default),(nl,default)⟩⟩
def Ao.fl(b:Nat)(x:Ao)(g:Ao.G):List HP:=[Bk b 196 [vI x.most,g.s.1,g.r.1],rO (An.op g.s.2) g.s.1 x.s,rO (Aj.op g.r.2) g.r.1 x.r]
def Ao.op(g:Ao.G):Nat→Ao→HP:=fun b x=>star (Ao.fl b x g)
structure Ah where
 kind:Int
 a:Option Aq
 t:Option Ao
 deriving DecidableEq,Inhabited
structure Ah.G where
 a:_root_.Go.Value×Aq.G
 t:_root_.Go.Value×Ao.G
instance:Inhabited Ah.G:=⟨⟨(nl,default),(nl,default)⟩⟩
def Ah.fl(b:Nat)(x:Ah)(g:Ah.G):List HP:=[Bk b 144 [vI x.kind,g.a.1,g.t.1],rO (Aq.op g.a.2) g.a.1 x.a,rO (Ao.op g.t.2) g.t.1 x.t]
def Ah.op(g:Ah.G):Nat→Ah→HP:=fun b x=>star (Ah.fl b x g)
structure Ap where
 E:Int
 Value:Str
 Version:UInt64
 deriving DecidableEq,Inhabited
def Ap.c(x:Ap):List _root_.Go.Value:=[vI x.E,vS x.Value,vW x.Version]
abbrev Ap.v(x:Ap):_root_.Go.Value := .agg (Ap.c x).toArray
structure Ar where
 num:UInt64
 reply:Ap
 deriving DecidableEq,Inhabited
def Ar.c(x:Ar):List _root_.Go.Value:=[vW x.num,vI x.reply.E,vS x.reply.Value,vW x.reply.Version]
abbrev Ar.v(x:Ar):_root_.Go.Value := .agg (Ar.c x).toArray
structure Cb where
 Asked:Int
 Hits:Int
 deriving DecidableEq,Inhabited
def Cb.c(x:Cb):List _root_.Go.Value:=[vI x.Asked,vI x.Hits]
abbrev Cb.v(x:Cb):_root_.Go.Value := .agg (Cb.c x).toArray
structure Ak where
 c:Au
 t:Option Am
 p:Option Ah
 sessions:List (UInt64×Ar)
 seq:UInt64
 now:UInt64
 version:UInt64
 tally:Cb
 deriving DecidableEq,Inhabited
structure Ak.G where
 t:_root_.Go.Value×Am.G
 p:_root_.Go.Value×Ah.G
 sessions:_root_.Go.Value
instance:Inhabited Ak.G:=⟨⟨(nl,default),(nl,default),nl⟩⟩
def Ak.fl(b:Nat)(x:Ak)(g:Ak.G):List HP:=[Bk b 96 [vI x.c.Policy,vI x.c.Entries,vI x.c.Bytes,vW x.c.Seed,g.t.1,g.p.1,g.sessions,vW x.seq,vW x.now,vW x.version,vI x.tally.Asked,vI x.tally.Hits],rO (Am.op g.t.2) g.t.1 x.t,rO (Ah.op g.p.2) g.p.1 x.p,OwM vW Ar.v g.sessions x.sessions]
def Ak.op(g:Ak.G):Nat→Ak→HP:=fun b x=>star (Ak.fl b x g)
structure Ab where
 L:List (List Str)
 Places:Int
 deriving DecidableEq,Inhabited
structure Ab.G where
 L:_root_.Go.Value×List _root_.Go.Value
instance:Inhabited Ab.G:=⟨⟨(nl,[])⟩⟩
def Ab.fl(b:Nat)(x:Ab)(g:Ab.G):List HP:=[Bk b 64 [g.L.1,vI x.Places],OwS true 98 1 eV g.L.1 g.L.2,OwL (OwS true 9 1 eS) g.L.2 x.L]
def Ab.op(g:Ab.G):Nat→Ab→HP:=fun b x=>star (Ab.fl b x g)
def Ab.ro(R:PH)(x:Ab)(g:Ab.G):Prop:=RoN R g.L.1 1 (fun x=>[vS x]) x.L
structure Aa where
 Most:Int
 Target:Int
 R:Ab
 deriving DecidableEq,Inhabited
structure Aa.G where
 R:Ab.G
instance:Inhabited Aa.G:=⟨⟨default⟩⟩
def Aa.fl(b:Nat)(x:Aa)(g:Aa.G):List HP:=[Bk b 66 [vI x.Most,vI x.Target,g.R.L.1,vI x.R.Places],OwS true 98 1 eV g.R.L.1 g.R.L.2,OwL (OwS true 9 1 eS) g.R.L.2 x.R.L]
def Aa.op(g:Aa.G):Nat→Aa→HP:=fun b x=>star (Aa.fl b x g)
def Aa.ro(R:PH)(x:Aa)(g:Aa.G):Prop:=Ab.ro R x.R g.R
structure Ad where
 Wide:Int
 Seed:UInt64
 Rows:List (List Int)
 Door:List Bool
 Added:Int
 deriving DecidableEq,Inhabited
structure Ad.G where
 Rows:_root_.Go.Value×List _root_.Go.Value
 Door:_root_.Go.Value
instance:Inhabited Ad.G:=⟨⟨(nl,[]),nl⟩⟩
def Ad.fl(b:Nat)(x:Ad)(g:Ad.G):List HP:=[Bk b 70 [vI x.Wide,vW x.Seed,g.Rows.1,g.Door,vI x.Added],OwS true 234 1 eV g.Rows.1 g.Rows.2,OwL (OwS true 3 1 eI) g.Rows.2 x.Rows,OwS true 4 1 eB g.Door x.Door]
def Ad.op(g:Ad.G):Nat→Ad→HP:=fun b x=>star (Ad.fl b x g)
def Ad.ro(R:PH)(x:Ad)(g:Ad.G):Prop:=(RoN R g.Rows.1 1 (fun x=>[vI x]) x.Rows)∧(RoS R g.Door 1 (fun x=>[vB x]) x.Door)
structure Ae where
 Most:Int
 S:Ad
 R:Ab
 deriving DecidableEq,Inhabited
structure Ae.G where
 S:Ad.G
 R:Ab.G
instance:Inhabited Ae.G:=⟨⟨default,default⟩⟩
def Ae.fl(b:Nat)(x:Ae)(g:Ae.G):List HP:=[Bk b 72 [vI x.Most,vI x.S.Wide,vW x.S.Seed,g.S.Rows.1,g.S.Door,vI x.S.Added,g.R.L.1,vI x.R.Places],OwS true 234 1 eV g.S.Rows.1 g.S.Rows.2,OwL (OwS true 3 1 eI) g.S.Rows.2 x.S.Rows,OwS true 4 1 eB g.S.Door x.S.Door,OwS true 98 1 eV g.R.L.1 g.R.L.2,OwL (OwS true 9 1 eS) g.R.L.2 x.R.L]
def Ae.op(g:Ae.G):Nat→Ae→HP:=fun b x=>star (Ae.fl b x g)
def Ae.ro(R:PH)(x:Ae)(g:Ae.G):Prop:=(Ad.ro R x.S g.S)∧(Ab.ro R x.R g.R)
structure Af where
 Kind:Int
 A:Aa
 T:Ae
 deriving DecidableEq,Inhabited
structure Af.G where
 A:Aa.G
 T:Ae.G
instance:Inhabited Af.G:=⟨⟨default,default⟩⟩
def Af.fl(b:Nat)(x:Af)(g:Af.G):List HP:=[Bk b 74 [vI x.Kind,vI x.A.Most,vI x.A.Target,g.A.R.L.1,vI x.A.R.Places,vI x.T.Most,vI x.T.S.Wide,vW x.T.S.Seed,g.T.S.Rows.1,g.T.S.Door,vI x.T.S.Added,g.T.R.L.1,vI x.T.R.Places],OwS true 98 1 eV g.A.R.L.1 g.A.R.L.2,OwL (OwS true 9 1 eS) g.A.R.L.2 x.A.R.L,OwS true 234 1 eV g.T.S.Rows.1 g.T.S.Rows.2,OwL (OwS true 3 1 eI) g.T.S.Rows.2 x.T.S.Rows,OwS true 4 1 eB g.T.S.Door x.T.S.Door,OwS true 98 1 eV g.T.R.L.1 g.T.R.L.2,OwL (OwS true 9 1 eS) g.T.R.L.2 x.T.R.L]
def Af.op(g:Af.G):Nat→Af→HP:=fun b x=>star (Af.fl b x g)
def Af.ro(R:PH)(x:Af)(g:Af.G):Prop:=(Aa.ro R x.A g.A)∧(Ae.ro R x.T g.T)
structure As where
 Session:UInt64
 Num:UInt64
 Reply:Ap
 deriving DecidableEq,Inhabited
def As.c(x:As):List _root_.Go.Value:=[vW x.Session,vW x.Num,vI x.Reply.E,vS x.Reply.Value,vW x.Reply.Version]
abbrev As.v(x:As):_root_.Go.Value := .agg (As.c x).toArray
structure Ac where
 C:Au
 T:List Ai
 P:Af
 Sessions:List As
 Seq:UInt64
 Now:UInt64
 Ver:UInt64
 Asked:Int
 Hits:Int
 deriving DecidableEq,Inhabited
structure Ac.G where
 T:_root_.Go.Value
 P:Af.G
 Sessions:_root_.Go.Value
instance:Inhabited Ac.G:=⟨⟨nl,default,nl⟩⟩
def Ac.fl(b:Nat)(x:Ac)(g:Ac.G):List HP:=[Bk b 77 [vI x.C.Policy,vI x.C.Entries,vI x.C.Bytes,vW x.C.Seed,g.T,vI x.P.Kind,vI x.P.A.Most,vI x.P.A.Target,g.P.A.R.L.1,vI x.P.A.R.Places,vI x.P.T.Most,vI x.P.T.S.Wide,vW x.P.T.S.Seed,g.P.T.S.Rows.1,g.P.T.S.Door,vI x.P.T.S.Added,g.P.T.R.L.1,vI x.P.T.R.Places,g.Sessions,vW x.Seq,vW x.Now,vW x.Ver,vI x.Asked,vI x.Hits],OwS true 50 4 Ai.c g.T x.T,OwS true 98 1 eV g.P.A.R.L.1 g.P.A.R.L.2,OwL (OwS true 9 1 eS) g.P.A.R.L.2 x.P.A.R.L,OwS true 234 1 eV g.P.T.S.Rows.1 g.P.T.S.Rows.2,OwL (OwS true 3 1 eI) g.P.T.S.Rows.2 x.P.T.S.Rows,OwS true 4 1 eB g.P.T.S.Door x.P.T.S.Door,OwS true 98 1 eV g.P.T.R.L.1 g.P.T.R.L.2,OwL (OwS true 9 1 eS) g.P.T.R.L.2 x.P.T.R.L,OwS true 83 5 As.c g.Sessions x.Sessions]
def Ac.op(g:Ac.G):Nat→Ac→HP:=fun b x=>star (Ac.fl b x g)
def Ac.ro(R:PH)(x:Ac)(g:Ac.G):Prop:=(RoS R g.T 4 Ai.c x.T)∧(Af.ro R x.P g.P)∧(RoS R g.Sessions 5 As.c x.Sessions)
structure AK where
 Seq:UInt64
 Now:UInt64
 Session:UInt64
 Num:UInt64
 Op:AI
 deriving DecidableEq,Inhabited
def AK.c(x:AK):List _root_.Go.Value:=[vW x.Seq,vW x.Now,vW x.Session,vW x.Num,vI x.Op.Kind,vS x.Op.Key,vS x.Op.Value,vW x.Op.TTL,vW x.Op.Version]
abbrev AK.v(x:AK):_root_.Go.Value := .agg (AK.c x).toArray
structure D3 where
 Window:Int
 Protected:Int
 deriving DecidableEq,Inhabited
def D3.c(x:D3):List _root_.Go.Value:=[vI x.Window,vI x.Protected]
abbrev D3.v(x:D3):_root_.Go.Value := .agg (D3.c x).toArray
theorem Au.eqt24(d:Nat)(a b:Au):EqT prog (d+1) 24 (.agg (Au.c a).toArray) (.agg (Au.c b).toArray) (decide (a=b)) :=
 EqT.st underlying24 Tryz.stoodInHeld24 (EqF.cons (a:=vI a.Policy) (b:=vI b.Policy) kr kr rfl (EqT.I _ underlying3 _ _) <| EqF.cons (a:=vI a.Entries) (b:=vI b.Entries) kr kr rfl (EqT.I _ underlying3 _ _) <| EqF.cons (a:=vI a.Bytes) (b:=vI b.Bytes) kr kr rfl (EqT.I _ underlying3 _ _) <| EqF.cons (a:=vW a.Seed) (b:=vW b.Seed) kr kr rfl (EqT.W _ underlying22 _ _) <| EqF.nil) (by cases a;cases b;rw [Bool.eq_iff_iff];simp)
theorem Au.beq_24(a b:Au):Bop prog .eql 24 (.agg (Au.c a).toArray) (.agg (Au.c b).toArray) (vB (decide (a=b))):=EqT.bop Tryz.eqGuardType24 (Au.eqt24 9998 a b)
theorem Au.bne_24(a b:Au):Bop prog .neq 24 (.agg (Au.c a).toArray) (.agg (Au.c b).toArray) (vB (!decide (a=b))):=EqT.bon Tryz.eqGuardType24 (Au.eqt24 9998 a b)
theorem AI.eqt27(d:Nat)(a b:AI):EqT prog (d+1) 27 (.agg (AI.c a).toArray) (.agg (AI.c b).toArray) (decide (a=b)) :=
 EqT.st underlying27 Tryz.stoodInHeld27 (EqF.cons (a:=vI a.Kind) (b:=vI b.Kind) kr kr rfl (EqT.I _ underlying3 _ _) <| EqF.cons (a:=vS a.Key) (b:=vS b.Key) kr kr rfl (EqT.S _ underlying9 _ _) <| EqF.cons (a:=vS a.Value) (b:=vS b.Value) kr kr rfl (EqT.S _ underlying9 _ _) <| EqF.cons (a:=vW a.TTL) (b:=vW b.TTL) kr kr rfl (EqT.W _ underlying22 _ _) <| EqF.cons (a:=vW a.Version) (b:=vW b.Version) kr kr rfl (EqT.W _ underlying22 _ _) <| EqF.nil) (by cases a;cases b;rw [Bool.eq_iff_iff];simp)
theorem AI.beq_27(a b:AI):Bop prog .eql 27 (.agg (AI.c a).toArray) (.agg (AI.c b).toArray) (vB (decide (a=b))):=EqT.bop Tryz.eqGuardType27 (AI.eqt27 9998 a b)
theorem AI.bne_27(a b:AI):Bop prog .neq 27 (.agg (AI.c a).toArray) (.agg (AI.c b).toArray) (vB (!decide (a=b))):=EqT.bon Tryz.eqGuardType27 (AI.eqt27 9998 a b)
theorem Ap.eqt41(d:Nat)(a b:Ap):EqT prog (d+1) 41 (.agg (Ap.c a).toArray) (.agg (Ap.c b).toArray) (decide (a=b)) :=
 EqT.st underlying41 Tryz.stoodInHeld41 (EqF.cons (a:=vI a.E) (b:=vI b.E) kr kr rfl (EqT.I _ underlying39 _ _) <| EqF.cons (a:=vS a.Value) (b:=vS b.Value) kr kr rfl (EqT.S _ underlying9 _ _) <| EqF.cons (a:=vW a.Version) (b:=vW b.Version) kr kr rfl (EqT.W _ underlying22 _ _) <| EqF.nil) (by cases a;cases b;rw [Bool.eq_iff_iff];simp)
theorem Ap.beq_41(a b:Ap):Bop prog .eql 41 (.agg (Ap.c a).toArray) (.agg (Ap.c b).toArray) (vB (decide (a=b))):=EqT.bop Tryz.eqGuardType41 (Ap.eqt41 9998 a b)
theorem Ap.bne_41(a b:Ap):Bop prog .neq 41 (.agg (Ap.c a).toArray) (.agg (Ap.c b).toArray) (vB (!decide (a=b))):=EqT.bon Tryz.eqGuardType41 (Ap.eqt41 9998 a b)
theorem Ai.eqt50(d:Nat)(a b:Ai):EqT prog (d+1) 50 (.agg (Ai.c a).toArray) (.agg (Ai.c b).toArray) (decide (a=b)) :=
 EqT.st underlying50 Tryz.stoodInHeld50 (EqF.cons (a:=vS a.Key) (b:=vS b.Key) kr kr rfl (EqT.S _ underlying9 _ _) <| EqF.cons (a:=vS a.Value) (b:=vS b.Value) kr kr rfl (EqT.S _ underlying9 _ _) <| EqF.cons (a:=vW a.Version) (b:=vW b.Version) kr kr rfl (EqT.W _ underlying22 _ _) <| EqF.cons (a:=vW a.End) (b:=vW b.End) kr kr rfl (EqT.W _ underlying22 _ _) <| EqF.nil) (by cases a;cases b;rw [Bool.eq_iff_iff];simp)
theorem Ai.beq_50(a b:Ai):Bop prog .eql 50 (.agg (Ai.c a).toArray) (.agg (Ai.c b).toArray) (vB (decide (a=b))):=EqT.bop Tryz.eqGuardType50 (Ai.eqt50 9998 a b)
theorem Ai.bne_50(a b:Ai):Bop prog .neq 50 (.agg (Ai.c a).toArray) (.agg (Ai.c b).toArray) (vB (!decide (a=b))):=EqT.bon Tryz.eqGuardType50 (Ai.eqt50 9998 a b)
def mk0_:List Nat:=[0,0,0,0,15,31,0,63,255]
def mk1_:List Nat:=[0,0,0,0,8,0,0,64,224,480,0,0,3072,7168,16355,32739,65535,131071]
def mk2_:List Nat:=[0,0,0,4,0,0,48,112,255,511,1023]
def mk3_:List Nat:=[0,0,0,4,1,17,63,127]
def mk4_:List Nat:=[0,0,0,6,14,30,63,127]
def mk5_:List Nat:=[0,0,2,0,14,30,62,1,255,511]
def mk6_:List Nat:=[0,0,2,0,8,0,32,126,255,511]
def mk7_:List Nat:=[0,0,2,0,8,0,62,127,0,255,1023,2047]
def mk8_:List Nat:=[0,0,2,0,8,30,1,127]
def mk9_:List Nat:=[0,0,2,6,14,0,0,96,224,510,1022,2047,4095,8191]
def mk10_:List Nat:=[0,0,2,6,14,0,32,126,255,511,1023]
def mk11_:List Nat:=[0,0,2,6,14,0,32,96,224,0,0,1536,3584,8160,16382,32767,65535,131071]
def mk12_:List Nat:=[0,0,2,6,14,0,62,126,254,510,1023,2047]
def mk13_:List Nat:=[0,0,2,6,14,31,63,127,255,511,1023,2047,127,4223,12415,28799,65535,131071,262143]
def mk14_:List Nat:=[0,0,2,6,14,31,63,127]
def mk15_:List Nat:=[0,0,2,7,0,16,48,15,255]
def mk16_:List Nat:=[0,0,2,7,15,31,63,31,159,511,1023,2047]
def mk17_:List Nat:=[0,0,3,7,15,15,63,127,15,15,527,1807,3855,8191,16383]
def mk18_:List Nat:=[0,1,0,0,0,24,56,127,255,511,511,0,3071,8191]
def mk19_:List Nat:=[0,1,0,0,12,28,63,127,255]
def mk20_:List Nat:=[0,1,0,0,8,0,32,0,224,480,1016,2047,4095]
def mk21_:List Nat:=[0,1,0,4,0,16,48,112,255,0,1023]
def mk22_:List Nat:=[0,1,0,4,0,3,47,127]
def mk23_:List Nat:=[0,1,0,4,12,31,63,127,255,127,639,2047,4095,8191,16383,32767,16383,81919,262143,524287,1048575,2097151,4194303,8388607,2097151,18874367,67108863,134217727,268435455,536870911,1073741823,2147483647,536870911,4831838207,17179869183,34359738367]
def mk24_:List Nat:=[0,1,0,4,12,31,63,127]
def mk25_:List Nat:=[0,1,0,7,15,0,0,64,0,448,960,0,4032,8128,16320,32767,65535]
def mk26_:List Nat:=[0,1,0,7,15,0,32,0,224,480,1023]
def mk27_:List Nat:=[0,1,0,7,15,31,0,64,255]
def mk28_:List Nat:=[0,1,0,7,15,31,63,127,63,511,1023,2047]
def mk29_:List Nat:=[0,1,3,7,0,16,0,127]
def mk30_:List Nat:=[0,1,3,7,0,16,0,64,0,448,1023]
def mk31_:List Nat:=[0,1,3,7,0,16,0,64,192,448,960,2032,4095,8191,16383]
def mk32_:List Nat:=[0,1,3,7,0,16,48,112,0,256,768,1792,0,0,0,12287,45055,110591,262143,524287,1048575]
def mk33_:List Nat:=[0,1,3,7,0,16,48,112,0,256,768,1792,0,4096,12288,28672,0,65536,196608,458752,0,1048576,3145728,7340032,16777215,33554431,67108863,134217727,268435455,536870911]
def mk34_:List Nat:=[0,1,3,7,0,16,48,112,255,511,0]
def mk35_:List Nat:=[0,1,3,7,0,16,48,112,255,511,1023,2047,4095]
def mk36_:List Nat:=[0,1,3,7,0,16,63,127,0,256,895,2047,4095]
def mk37_:List Nat:=[0,1,3,7,0,16,63,127,0]
def mk38_:List Nat:=[0,1,3,7,0,16,63,127,255,255,0,1535,4095]
def mk39_:List Nat:=[0,1,3,7,0,16,63,127,255,511]
def mk40_:List Nat:=[0,1,3,7,15,0,32,96,224,511,1023,2047]
def mk41_:List Nat:=[0,1,3,7,15,31,0,64,192,448,960,0,2048,6144,14336,32704,65472,131071,262143,0,1048575]
def mk42_:List Nat:=[0,1,3,7,15,31,15,79,255,511,1023,2047,4095,8191,4095,20479,65535,131071,262143,524287,1048575,2097151,4194303,8388607,16777215]
def mk43_:List Nat:=[0,1,3,7,15,31,3,127,3,259,771,1795,3,8191,16383,32767]
def mk44_:List Nat:=[0,1,3,7,15,31,7,71,199,511,1023]
def mk45_:List Nat:=[0,1,3,7,15,7,63,127,255,7,519,2047,4095,8191]
def mk46_:List Nat:=[0,1,3,7,15,7,63,127,255,7,519,2047,4095]
def mk47_:List Nat:=[0,1,3,7,3,31,3,67,3,511,1023,2047]
def mk48_:List Nat:=[0,1,3,7,7,23,55,127,255,511,1023,2047,4095,8191,16383,32767,65535,131071,262143,524287,262143,1310719,4194303,8388607,16777215]
def mk49_:List Nat:=[0,1,3,7,7,31,63,127,7,263,1023,2047]
abbrev Ac.k(x:Ac)(g:Ac.G):List Value:=[vI x.C.Policy,vI x.C.Entries,vI x.C.Bytes,vW x.C.Seed,g.T,vI x.P.Kind,vI x.P.A.Most,vI x.P.A.Target,g.P.A.R.L.1,vI x.P.A.R.Places,vI x.P.T.Most,vI x.P.T.S.Wide,vW x.P.T.S.Seed,g.P.T.S.Rows.1,g.P.T.S.Door,vI x.P.T.S.Added,g.P.T.R.L.1,vI x.P.T.R.Places,g.Sessions,vW x.Seq,vW x.Now,vW x.Ver,vI x.Asked,vI x.Hits]
abbrev Af.k(x:Af)(g:Af.G):List Value:=[vI x.Kind,vI x.A.Most,vI x.A.Target,g.A.R.L.1,vI x.A.R.Places,vI x.T.Most,vI x.T.S.Wide,vW x.T.S.Seed,g.T.S.Rows.1,g.T.S.Door,vI x.T.S.Added,g.T.R.L.1,vI x.T.R.Places]
abbrev Ak.k(x:Ak)(g:Ak.G):List Value:=[vI x.c.Policy,vI x.c.Entries,vI x.c.Bytes,vW x.c.Seed,g.t.1,g.p.1,g.sessions,vW x.seq,vW x.now,vW x.version,vI x.tally.Asked,vI x.tally.Hits]
abbrev Ae.k(x:Ae)(g:Ae.G):List Value:=[vI x.Most,vI x.S.Wide,vW x.S.Seed,g.S.Rows.1,g.S.Door,vI x.S.Added,g.R.L.1,vI x.R.Places]
abbrev An.k(x:An)(g:An.G):List Value:=[vI x.wide,vW x.seed,g.rows.1,g.rows.2.1,g.rows.2.2.1,g.rows.2.2.2,g.door,vI x.added]
abbrev Ad.k(x:Ad)(g:Ad.G):List Value:=[vI x.Wide,vW x.Seed,g.Rows.1,g.Door,vI x.Added]
abbrev Aa.k(x:Aa)(g:Aa.G):List Value:=[vI x.Most,vI x.Target,g.R.L.1,vI x.R.Places]
abbrev Aj.k(x:Aj)(g:Aj.G):List Value:=[vI x.lists,g.slots,g.free,g.at_,g.many]
def Eg(a0:UInt64):Option Int :=
 Option.bind (if decide (4294967296≤a0) then some (shWr a0 ((32:UInt64).toNat:Int),32) else some (a0,0)) fun p0=>Option.bind (if decide (65536≤p0.1) then some (shWr p0.1 ((16:UInt64).toNat:Int),i64 (p0.2+16)) else some (p0.1,p0.2)) fun p4=>Option.bind (if decide (256≤p4.1) then some (shWr p4.1 ((8:UInt64).toNat:Int),i64 (p4.2+8)) else some (p4.1,p4.2)) fun p8=>(gi ([0,1,2,2,3,3,3,3,4,4,4,4,4,4,4,4,5,5,5,5,5,5,5,5,5,5,5,5,5,5,5,5,6,6,6,6,6,6,6,6,6,6,6,6,6,6,6,6,6,6,6,6,6,6,6,6,6,6,6,6,6,6,6,6,7,7,7,7,7,7,7,7,7,7,7,7,7,7,7,7,7,7,7,7,7,7,7,7,7,7,7,7,7,7,7,7,7,7,7,7,7,7,7,7,7,7,7,7,7,7,7,7,7,7,7,7,7,7,7,7,7,7,7,7,7,7,7,7,8,8,8,8,8,8,8,8,8,8,8,8,8,8,8,8,8,8,8,8,8,8,8,8,8,8,8,8,8,8,8,8,8,8,8,8,8,8,8,8,8,8,8,8,8,8,8,8,8,8,8,8,8,8,8,8,8,8,8,8,8,8,8,8,8,8,8,8,8,8,8,8,8,8,8,8,8,8,8,8,8,8,8,8,8,8,8,8,8,8,8,8,8,8,8,8,8,8,8,8,8,8,8,8,8,8,8,8,8,8,8,8,8,8,8,8,8,8,8,8,8,8,8,8,8,8,8,8]:Str) (p8.1.toUInt8.toNat:Int)).bind fun c12=>some (i64 (p8.2+(c12.toNat:Int)))
theorem Eg.ok{G R F}(a0:UInt64)(r:Int)(hm:Eg a0=some r):CO prog 200 [vW a0] G R (F)
  (Ret fun u R' L'=>u=vI r∧R'=R∧L'=F):=by
 unfold Eg at hm
 refine co_ofN (N:=25) func200 z z ?_
 refine csr (r_as z (nssr (r_mv z (r_bin z z (bW_ge a0 4294967296) (nsq ?_)))))
 obtain ⟨p0,hp1,hm2⟩:=bs hm
 refine cd_join (E':=[(0,vW p0.1),(2,vI p0.2)]) (L':=F) ?_ fun K3 =>?_
 rotate_left
 ·refine c_if (b:=decide (4294967296≤a0)) z (fun h18 =>?_) fun h18 =>?_
  ·have hm19:=ift hp1 h18
   refine csr (r_mv z (r_bin z z (bWW_shr a0 32) (r_as z (r_nil (x_seq (c_reg (r_as z (r_nil ?_))))))))
   obtain rfl:=si hm19
   exact x_sub K3 ⟨z,z,y_⟩ id_
  have hm19:=iff_ hp1 h18
  refine c_skip ?_
  obtain rfl:=si hm19
  exact x_sub K3 ⟨z,z,y_⟩ id_
 refine x_seq (c_seq (csr (r_mv z (r_bin z z (bW_ge _ 65536) (nsq ?_)))))
 obtain ⟨p4,hp5,hm6⟩:=bs hm2
 refine cd_join (E':=[(0,vW p4.1),(2,vI p4.2)]) (L':=F) ?_ fun K7 =>?_
 rotate_left
 ·refine c_if (b:=decide (65536≤p0.1)) z (fun h16 =>?_) fun h16 =>?_
  ·have hm17:=ift hp5 h16
   refine csr (r_mv z (r_bin z z (bWW_shr p0.1 16) (r_as z (r_nil (x_seq (c_reg (r_mv z (r_bin z z (bI_add _ 16) (r_as z (r_nil ?_))))))))))
   obtain rfl:=si hm17
   exact x_sub K7 ⟨z,z,y_⟩ id_
  have hm17:=iff_ hp5 h16
  refine c_skip ?_
  obtain rfl:=si hm17
  exact x_sub K7 ⟨z,z,y_⟩ id_
 refine x_seq (c_seq (csr (r_mv z (r_bin z z (bW_ge _ 256) (nsq ?_)))))
 obtain ⟨p8,hp9,hm10⟩:=bs hm6
 refine cd_join (E':=[(0,vW p8.1),(2,vI p8.2)]) (L':=F) ?_ fun K11 =>?_
 ·refine x_seq (csr (r_mv z (r_mv z (r_u (o_cv z (cWY underlying22 underlying5 p8.1)) ?_))))
  obtain ⟨c12,hc12,hm13⟩:=bs hm10
  refine r_u (o_ixSY underlying9 z z hc12) (r_u (o_cv z (cYI underlying5 underlying3 c12)) (r_bin z z (bI_add _ _) (r_as z (r_nil (x_seq (c_ret ?_))))))
  obtain rfl:=si hm13
  exact x_r1 z (rv_t z) le_ ⟨_,z,z,z,z⟩
 refine c_if (b:=decide (256≤p4.1)) z (fun h14 =>?_) fun h14 =>?_
 ·have hm15:=ift hp9 h14
  refine csr (r_mv z (r_bin z z (bWW_shr p4.1 8) (r_as z (r_nil (x_seq (c_reg (r_mv z (r_bin z z (bI_add _ 8) (r_as z (r_nil ?_))))))))))
  obtain rfl:=si hm15
  exact x_sub K11 ⟨z,z,y_⟩ id_
 have hm15:=iff_ hp9 h14
 refine c_skip ?_
 obtain rfl:=si hm15
 exact x_sub K11 ⟨z,z,y_⟩ id_
def Ec(a0:UInt64):Option Int :=
 (Eg a0).bind fun r0=>some r0
theorem Ec.ok{G R F}(a0:UInt64)(r:Int)(hm:Ec a0=some r):CO prog 149 [vW a0] G R (F)
  (Ret fun u R' L'=>u=vI r∧R'=R∧L'=F):=by
 unfold Ec at hm
 refine co_ofN (N:=8) func149 z z ?_
 refine csr (r_as z (r_nil (x_seq (c_seq (c_ff z (c_skip (x_seq (csr (r_mv z ?_)))))))))
 obtain ⟨r0,hr0,hm1⟩:=bs hm
 refine r_u (o_callq ca200 z (Eg.ok a0 _ hr0)) (r_as z (r_nil (x_seq (c_ret ?_))))
 obtain rfl:=si hm1
 exact x_r1 z (rv_t z) le_ ⟨_,z,z,z,z⟩
def cmp_isNaN_uint64(a0:UInt64):Bool :=
 (a0 != a0)
theorem cmp_isNaN_uint64.ok{G R F}(a0:UInt64)(r:Bool)(hm:cmp_isNaN_uint64 a0=r):CO prog 237 [vW a0] G R (F)
  (Ret fun u R' L'=>u=vB r∧R'=R∧L'=F):=by
 unfold cmp_isNaN_uint64 at hm
 refine co_ofN (N:=6) func237 z z ?_
 refine csr (r_as z (nsr (r_mv z (r_mv z (r_bin z z (bW_ne a0 a0) (r_as z (r_nil (x_seq (c_ret ?_)))))))))
 subst hm
 exact x_r1 z (rv_t z) le_ ⟨_,z,z,z,z⟩
def cmp_Less_uint64(a0:UInt64)(a1:UInt64):Bool :=
 (((cmp_isNaN_uint64 a0) && !(cmp_isNaN_uint64 a1))||decide (a0<a1))
theorem cmp_Less_uint64.ok{G R F}(a0:UInt64)(a1:UInt64)(r:Bool)(hm:cmp_Less_uint64 a0 a1=r):CO prog 196 [vW a0,vW a1] G R (F)
  (Ret fun u R' L'=>u=vB r∧R'=R∧L'=F):=by
 unfold cmp_Less_uint64 at hm
 refine co_ofN (N:=17) func196 z z ?_
 refine csr (r_as z (nsr (r_mv z ?_)))
 refine r_u (o_callq ca237 z (cmp_isNaN_uint64.ok a0 _ z)) (r_mv z ?_)
 refine r_s (s_gt z z fun g=>o_mv z) ?_
 refine r_s (s_gt z z fun g=>o_callq ca237 (evs1 (evg z g) evs0) (cmp_isNaN_uint64.ok a1 _ z)) ?_
 refine r_s (s_gt z z fun g=>o_not (evg z g)) ?_
 refine r_u (o_and z z) (r_mv z ?_)
 refine r_s (s_gf z z fun g=>o_mv z) ?_
 refine r_s (s_gf z z fun g=>o_mv z) ?_
 refine r_s (s_gf z z fun g=>o_bin (evg z g) (evg z g) (bW_lt a0 a1)) ?_
 refine r_u (o_or z z) (r_as z (r_nil (x_seq (c_ret ?_))))
 subst hm
 exact x_r1 z (rv_t z) le_ ⟨_,z,z,z,z⟩
def slices_insertionSortOrdered_uint64_o0_l1(a1:Int):Nat→Int→(List UInt64)→Option (List UInt64)
 | 0,_,_=>none
 | k21+1,j_19,c_20=>Option.bind (if decide (a1<j_19) then (gi c_20 j_19).bind fun x38=>(gi c_20 (i64 (j_19-1))).bind fun x40=>some (cmp_Less_uint64 x38 x40) else some false) fun p24=>if p24 then (gi c_20 (i64 (j_19-1))).bind fun x30=>(gi c_20 j_19).bind fun x32=>(gi (ls c_20 j_19 x30) (i64 (j_19-1))).bind fun x34=>slices_insertionSortOrdered_uint64_o0_l1 a1 k21 (i64 (j_19-1)) (ls (ls c_20 j_19 x30) (i64 (j_19-1)) x32) else some c_20
def slices_insertionSortOrdered_uint64_o0_l0(a1:Int)(a2:Int):Nat→Int→(List UInt64)→Option (List UInt64)
 | 0,_,_=>none
 | k6+1,i_4,c_5=>if decide (i_4<a2) then Option.bind (Option.bind (slices_insertionSortOrdered_uint64_o0_l1 a1 1100 i_4 c_5) fun p15=>some p15) fun p11=>slices_insertionSortOrdered_uint64_o0_l0 a1 a2 k6 (i64 (i_4+1)) p11 else some c_5
def slices_insertionSortOrdered_uint64_o0(a0:List UInt64)(a1:Int)(a2:Int):Option (List UInt64) :=
 Option.bind (slices_insertionSortOrdered_uint64_o0_l0 a1 a2 ((a2-i64 (a1+1)).toNat+1) (i64 (a1+1)) a0) fun p0=>some p0
theorem slices_insertionSortOrdered_uint64_o0.ok{G R F}(v0_:Value)(a0:List UInt64)(a1:Int)(a2:Int)(r:List UInt64)(hm:slices_insertionSortOrdered_uint64_o0 a0 a1 a2=some r):CO prog 190 [v0_,vI a1,vI a2] G R (OwS true 22 1 eW v0_ a0::F)
  (Ret fun u R' L'=>u = .tuple #[]∧R'=R∧L'=OwS true 22 1 eW v0_ r::F):=by
 unfold slices_insertionSortOrdered_uint64_o0 at hm
 refine co_ofN (N:=49) func190 z z ?_
 refine csr (r_mv z (r_bin z z (bI_add a1 1) (r_as z (nsq ?_))))
 obtain ⟨p0,hp1,hm2⟩:=bs hm
 refine cd_join (E':=[]) (L':=OwS true 22 1 eW v0_ p0::F) ?_ fun K3 =>?_
 ·refine x_end ?_
  obtain rfl:=si hm2
  exact x_r0 z le_ ⟨_,z,z,z,z⟩
 refine c_blk ?_
 refine cd_loop (M:=fun k6 (s:Int×List UInt64)=>slices_insertionSortOrdered_uint64_o0_l0 a1 a2 k6 s.1 s.2=some p0) (Ef:=fun (s:Int×List UInt64)=>[(0,v0_),(1,vI a1),(2,vI a2),(6,vI s.1)]) (Lf:=fun (s:Int×List UInt64)=>OwS true 22 1 eW v0_ s.2::F) ((a2-i64 (a1+1)).toNat+1) (i64 (a1+1),a0) hp1 ⟨z,z,z,z,y_⟩ (fun _ h=>h) (fun _ h=>by cases h) fun k6 s hM8 =>?_
 obtain ⟨i_4,c_5⟩:=s
 have hm7:slices_insertionSortOrdered_uint64_o0_l0 a1 a2 (k6+1) i_4 c_5=some p0:=hM8
 rw [slices_insertionSortOrdered_uint64_o0_l0] at hm7
 refine c_seq (csr (r_mv z (r_mv z (r_bin z z (bI_lt _ a2) (nsq ?_)))))
 refine c_if (b:=decide (i_4<a2)) z (fun h9 =>?_) fun h9 =>?_
 rotate_left
 ·have hm10:=iff_ hm7 h9
  refine c_exit (x_exit (ks':=_) z ?_)
  obtain rfl:=si hm10
  exact x_sub K3 trivial id_
 have hm10:=ift hm7 h9
 refine c_skip (x_seq (c_seq ?_))
 obtain ⟨p11,hp12,hm13⟩:=bs hm10
 refine cd_join (E':=[(0,v0_),(1,vI a1),(2,vI a2),(6,vI i_4)]) (L':=OwS true 22 1 eW v0_ p11::F) ?_ fun K14 =>?_
 ·refine x_seq (c_reg (r_mv z (r_bin z z (bI_add _ 1) (r_as z (r_nil ?_)))))
  exact x_lp (i64 (i_4+1),p11) hm13 ⟨z,z,z,z,y_⟩ id_
 refine c_blk (csr (r_mv z (r_as z (nsq ?_))))
 obtain ⟨p15,hp16,hm17⟩:=bs hp12
 refine cd_join (E':=[(0,v0_),(1,vI a1),(2,vI a2),(6,vI i_4)]) (L':=OwS true 22 1 eW v0_ p15::F) ?_ fun K18 =>?_
 ·refine x_blk ?_
  obtain rfl:=si hm17
  exact x_sub K14 ⟨z,z,z,z,y_⟩ id_
 refine c_blk ?_
 refine cd_loop (M:=fun k21 (s:Int×List UInt64)=>slices_insertionSortOrdered_uint64_o0_l1 a1 k21 s.1 s.2=some p15) (Ef:=fun (s:Int×List UInt64)=>[(0,v0_),(1,vI a1),(2,vI a2),(6,vI i_4),(7,vI s.1)]) (Lf:=fun (s:Int×List UInt64)=>OwS true 22 1 eW v0_ s.2::F) 1100 (i_4,c_5) hp16 ⟨z,z,z,z,z,y_⟩ (fun _ h=>h) (fun _ h=>by cases h) fun k21 s hM23 =>?_
 obtain ⟨j_19,c_20⟩:=s
 have hm22:slices_insertionSortOrdered_uint64_o0_l1 a1 (k21+1) j_19 c_20=some p15:=hM23
 rw [slices_insertionSortOrdered_uint64_o0_l1] at hm22
 refine c_seq (c_seq ?_)
 obtain ⟨p24,hp25,hm26⟩:=bs hm22
 refine cd_join (E':=[(0,v0_),(1,vI a1),(2,vI a2),(6,vI i_4),(7,vI j_19),(30,vB p24)]) (L':=OwS true 22 1 eW v0_ c_20::F) ?_ fun K27 =>?_
 ·refine x_seq ?_
  refine c_if (b:=p24) z (fun h28 =>?_) fun h28 =>?_
  rotate_left
  ·have hm29:=iff_ hm26 h28
   refine c_exit (x_exit (ks':=_) z ?_)
   obtain rfl:=si hm29
   exact x_sub K18 ⟨z,z,z,z,y_⟩ id_
  have hm29:=ift hm26 h28
  refine c_skip (x_seq (c_seq (c_blk ?_)))
  obtain ⟨x30,hx30,hm31⟩:=bs hm29
  obtain ⟨x32,hx32,hm33⟩:=bs hm31
  obtain ⟨x34,hx34,hm35⟩:=bs hm33
  refine c_any mixed (effs:=[15,17]) (V:=[]) ?_
  refine stn mk1_ [0,1,2,3,4,5,6,7,8,9,10,11,12,13,14] [15] [_,_,_,_,_,_,_,_,_,_,_,_,_,_,_] (q_mv z z z (q_mv z z z (q_mv z z z (q_mv z z z (q_u z z (o_bin z z (bI_sub _ 1)) (q_mv z z z (q_mv z z z (q_u z z (o_bin z z (bI_sub _ 1)) (q_u z z (o_ixO 0 underlying118 kr z z z hx30) (q_u z z (o_ldO0 0 sc22 z z hx30 z z) (q_mv z z z (q_mv z z z (q_u z z (o_ixO 0 underlying118 kr z z z hx32) (q_u z z (o_ldO0 0 sc22 z z hx32 z z) (q_u z z (o_ixO 0 underlying118 kr z z z hx32) qn))))))))))))))) ?_ (nxt z)
  refine ec (eo_u z (s_u (o_stO0 (c':=x30) sc22 z z z hx32 z z z)) le_ ?_) en
  refine stx [16] mk1_ [2,3,4,16] [17] [_] (q_mv z z z (q_mv z z z (q_u z z (o_bin z z (bI_sub _ 1)) (q_u z z (o_ixO 0 underlying118 kr z z z hx34) qn)))) ?_ (nxt z)
  refine ec (eo_u z (s_u (o_stO0 (c':=x32) sc22 z z z hx34 z z z)) le_ ?_) en
  refine stage z z z z mk1_ [] [] z z z qn en ?_
  intro _
  refine ex_sub (E':=[(0,v0_),(1,vI a1),(2,vI a2),(6,vI i_4),(7,vI j_19)]) ⟨z,z,z,z,z,y_⟩ ?_
  refine x_blk (x_seq (c_reg (r_mv z (r_bin z z (bI_sub _ 1) (r_as z (r_nil ?_))))))
  exact x_lp (i64 (j_19-1),ls (ls c_20 j_19 x30) (i64 (j_19-1)) x32) hm35 ⟨z,z,z,z,z,y_⟩ id_
 refine cd_by (decide (a1<j_19)) (fun h36 =>?_) fun h36 =>?_
 ·have hm37:=ift hp25 h36
  obtain ⟨x38,hx38,hm39⟩:=bs hm37
  obtain ⟨x40,hx40,hm41⟩:=bs hm39
  refine c_any mixed (effs:=[]) (V:=[]) ?_
  refine stn mk17_ [0,1,2,3,4,5,6,7,8,9,10,11,12,13,14] [] [_,_,_,_,_,_,_,_,_,_,_,_,_,_,_] (q_mv z z z (q_mv z z z (q_u z z (o_bin z z (bI_gt _ a1)) (q_mv z z z (q_y z z z z h36 (o_mv z) (q_y z z z z h36 (o_mv z) (q_y z z z z h36 (o_ixO 0 underlying118 kr z z z hx38) (q_y z z z z h36 (o_ldO0 0 sc22 z z hx38 z z) (q_y z z z z h36 (o_mv z) (q_y z z z z h36 (o_mv z) (q_y z z z z h36 (o_bin z z (bI_sub _ 1)) (q_y z z z z h36 (o_ixO 0 underlying118 kr z z z hx40) (q_y z z z z h36 (o_ldO0 0 sc22 z z hx40 z z) (q_y z z z z h36 (o_callq ca196 z (cmp_Less_uint64.ok x38 x40 _ z)) (q_u z z (o_pt z h36 z) qn))))))))))))))) en ?_
  intro _
  refine ex_sub (E':=[(0,v0_),(1,vI a1),(2,vI a2),(6,vI i_4),(7,vI j_19),(30,vB (cmp_Less_uint64 x38 x40))]) ⟨z,z,z,z,z,z,y_⟩ ?_
  obtain rfl:=si hm41
  exact x_sub K27 ⟨z,z,z,z,z,z,y_⟩ id_
 have hm37:=iff_ hp25 h36
 refine c_any mixed (effs:=[]) (V:=[]) ?_
 refine stn mk17_ [0,1,2,3,4,5,6,7,8,9,10,11,12,13,14] [] [_,_,_,_,_,_,_,_,_,_,_,_,_,_,_] (q_mv z z z (q_mv z z z (q_u z z (o_bin z z (bI_gt _ a1)) (q_mv z z z (q_n z z z z h36 (q_n z z z z h36 (q_n z z z z h36 (q_n z z z z h36 (q_n z z z z h36 (q_n z z z z h36 (q_n z z z z h36 (q_n z z z z h36 (q_n z z z z h36 (q_n z z z z h36 (q_u z z (o_pf z h36 z) qn))))))))))))))) en ?_
 intro _
 refine ex_sub (E':=[(0,v0_),(1,vI a1),(2,vI a2),(6,vI i_4),(7,vI j_19),(30,vB false)]) ⟨z,z,z,z,z,z,y_⟩ ?_
 obtain rfl:=si hm37
 exact x_sub K27 ⟨z,z,z,z,z,z,y_⟩ id_
def slices_pdqsortOrdered_uint64_o0(a0:List UInt64)(a1:Int)(a2:Int)(a3:Int):Option (List UInt64) :=
 if decide ((i64 (a2-a1))≤12) then (slices_insertionSortOrdered_uint64_o0 a0 a1 a2).bind fun r2=>some r2 else none
theorem slices_pdqsortOrdered_uint64_o0.ok{G R F}(v0_:Value)(a0:List UInt64)(a1:Int)(a2:Int)(a3:Int)(r:List UInt64)(hm:slices_pdqsortOrdered_uint64_o0 a0 a1 a2 a3=some r):CO prog 148 [v0_,vI a1,vI a2,vI a3] G R (OwS true 22 1 eW v0_ a0::F)
  (Ret fun u R' L'=>u = .tuple #[]∧R'=R∧L'=OwS true 22 1 eW v0_ r::F):=by
 unfold slices_pdqsortOrdered_uint64_o0 at hm
 refine co_ofN (N:=134) func148 z z ?_
 refine csr (r_as z (nsr (r_as z (r_nil (x_seq (c_blk ?_))))))
 refine c_loop (fun n (_:Unit)=>n=1) (fun _=>_) (fun _=>_) (fun _=>_) (fun _ h=>by cases h) (fun k s hM =>?_) 1 () z
 refine c_blk (csr (r_mv z (r_mv z (r_bin z z (bI_sub a2 a1) (r_as z (nssr (r_mv z (r_bin z z (bI_le _ 12) (nsq ?_)))))))))
 refine c_if (b:=decide ((i64 (a2-a1))≤12)) z (fun h0 =>?_) fun h0 =>?_
 ·have hm1:=ift hm h0
  refine csr (r_mv z (r_mv z (r_mv z ?_)))
  obtain ⟨r2,hr2,hm3⟩:=bs hm1
  refine r_c (s_w (o_call ca190 z (slices_insertionSortOrdered_uint64_o0.ok v0_ a0 a1 a2 _ hr2))) ?_
  refine r_nil (x_seq (c_ret ?_))
  obtain rfl:=si hm3
  exact x_r0 z le_ ⟨_,z,z,z,z⟩
 have hm1:=iff_ hm h0
 refine c_skip (x_seq ?_)
 cases hm1
def slices_Sort___uint64_uint64_o0(a0:List UInt64):Option (List UInt64) :=
 (Ec (toW (a0.length:Int))).bind fun r0=>(slices_pdqsortOrdered_uint64_o0 a0 0 (a0.length:Int) r0).bind fun r2=>some r2
theorem slices_Sort___uint64_uint64_o0.ok{G R F}(v0_:Value)(a0:List UInt64)(r:List UInt64)(hm:slices_Sort___uint64_uint64_o0 a0=some r):CO prog 94 [v0_] G R (OwS true 22 1 eW v0_ a0::F)
  (Ret fun u R' L'=>u = .tuple #[]∧R'=R∧L'=OwS true 22 1 eW v0_ r::F):=by
 unfold slices_Sort___uint64_uint64_o0 at hm
 refine co_ofN (N:=11) func94 z z ?_
 refine csr (r_mv z (r_u (o_lenO 0 underlying118 z z) (r_as z (r_nil (x_seq (c_reg (r_mv z (r_mv z (r_mv z (r_u (o_cv z (cIW underlying3 underlying134 (a0.length:Int))) ?_))))))))))
 obtain ⟨r0,hr0,hm1⟩:=bs hm
 refine r_u (o_callq ca149 z (Ec.ok _ _ hr0)) ?_
 obtain ⟨r2,hr2,hm3⟩:=bs hm1
 refine r_c (s_w (o_call ca148 z (slices_pdqsortOrdered_uint64_o0.ok v0_ a0 0 _ r0 _ hr2))) ?_
 refine r_nil ?_
 refine x_end ?_
 obtain rfl:=si hm3
 exact x_r0 z le_ ⟨_,z,z,z,z⟩
def insR(x:UInt64):List UInt64→List UInt64
 | []=>[x]
 | y::t=>if x<y then y::insR x t else x::y::t
def usort(l:List UInt64):List UInt64:=(l.foldl (fun P x=>insR x P) []).reverse
theorem insR_perm(x:UInt64):∀t,(insR x t).Perm (x::t)
 | []=>List.Perm.refl _
 | y::t=>by
  unfold insR
  split
  ·exact ((insR_perm x t).cons y).trans (List.Perm.swap x y t)
  ·exact List.Perm.refl _
theorem insR_sorted(x:UInt64):∀t:List UInt64,t.Pairwise (fun a b=>b≤a)→(insR x t).Pairwise (fun a b=>b≤a)
 | [],_=>by simp [insR]
 | y::t,h=>by
  unfold insR
  rw [List.pairwise_cons] at h
  split
  ·rename_i hxy
   refine List.pairwise_cons.2 ⟨fun z hz =>?_,insR_sorted x t h.2⟩
   rcases List.mem_cons.1 ((insR_perm x t).subset hz) with rfl | hz2
   ·exact UInt64.le_of_lt hxy
   ·exact h.1 z hz2
  ·rename_i hxy
   have hyx:y≤x:=UInt64.not_lt.1 hxy
   refine List.pairwise_cons.2 ⟨fun z hz =>?_,List.pairwise_cons.2 h⟩
   rcases List.mem_cons.1 hz with rfl | hz2
   ·exact hyx
   ·exact UInt64.le_trans (h.1 z hz2) hyx
theorem fold_perm:∀(l P:List UInt64),(l.foldl (fun P x=>insR x P) P).Perm (l++P)
 | [],P=>List.Perm.refl _
 | x::l,P=>by
  show (l.foldl (fun P x=>insR x P) (insR x P)).Perm _
  refine (fold_perm l (insR x P)).trans ?_
  refine ((insR_perm x P).append_left l).trans ?_
  exact List.perm_middle
theorem fold_sorted:∀(l P:List UInt64),P.Pairwise (fun a b=>b≤a)→(l.foldl (fun P x=>insR x P) P).Pairwise (fun a b=>b≤a)
 | [],P,h=>h
 | x::l,P,h=>fold_sorted l _ (insR_sorted x P h)
theorem usort_perm(l:List UInt64):(usort l).Perm l:=(List.reverse_perm _).trans ((fold_perm l []).trans (by rw [List.append_nil]))
theorem usort_of{l l':List UInt64}(h:l.Perm l'):usort l=usort l':=by
 have h1:=fold_sorted l [] List.Pairwise.nil
 have h2:=fold_sorted l' [] List.Pairwise.nil
 have hp:(l.foldl (fun P x=>insR x P) []).Perm (l'.foldl (fun P x=>insR x P) []):=by
  have a:=fold_perm l [];have b:=fold_perm l' []
  rw [List.append_nil] at a b
  exact a.trans (h.trans b.symm)
 exact congrArg List.reverse (List.Perm.eq_of_pairwise (le:=fun a b=>b≤a) (fun a b _ _ x y=>UInt64.le_antisymm y x) h1 h2 hp)
theorem gi_mid(A B:List UInt64)(x:UInt64)(i:Int)(h:i=(A.length:Int)):gi (A++x::B) i=some x:=by
 subst h;unfold gi;simp
theorem ls_mid(A B:List UInt64)(x y:UInt64)(i:Int)(h:i=(A.length:Int)):ls (A++x::B) i y=A++y::B:=by
 subst h;unfold ls;simp
theorem i64sm(n:Int)(h1 : -9223372036854775808≤n)(h2:n<9223372036854775808):i64 n=n:=by unfold i64;omega
theorem less64(x y:UInt64):cmp_Less_uint64 x y=decide (x<y):=by
 unfold cmp_Less_uint64 cmp_isNaN_uint64;simp
theorem ins_l1:∀(t B:List UInt64) (x:UInt64) (f:Nat),t.length<f→t.length≤1000 →
  slices_insertionSortOrdered_uint64_o0_l1 0 f (t.length:Int) (t.reverse++x::B)=some ((insR x t).reverse++B)
 | _,_,_,0,h,_=>by omega
 | [],B,x,f+1,_,_=>by
  unfold slices_insertionSortOrdered_uint64_o0_l1
  simp [insR]
 | y::t,B,x,f+1,h,hb=>by
  have e0:(y::t).reverse++x::B=t.reverse++y::x::B:=by simp
  have e1:(y::t).reverse++x::B=(y::t).reverse++x::B:=rfl
  have ej:i64 (((y::t).length:Int)-1)=(t.length:Int):=by
   rw [List.length_cons] at hb ⊢
   rw [i64sm _ (by omega) (by omega)];omega
  have hl:((y::t).length:Int)=(((y::t).reverse).length:Int):=by simp
  have hl2:(t.length:Int)=((t.reverse).length:Int):=by simp
  have g1:=gi_mid (y::t).reverse B x _ hl
  have g2:gi ((y::t).reverse++x::B) (t.length:Int)=some y:=by rw [e0];exact gi_mid t.reverse (x::B) y _ hl2
  unfold slices_insertionSortOrdered_uint64_o0_l1
  rw [if_pos (by simp <;> omega),ej,g1,ob_,g2,ob_,ob_,less64]
  by_cases c:x<y
  ·have s1:ls ((y::t).reverse++x::B) ((y::t).length:Int) y=(y::t).reverse++y::B:=ls_mid _ _ _ _ _ hl
   have s2:ls ((y::t).reverse++y::B) (t.length:Int) x=t.reverse++x::(y::B):=by
    rw [show (y::t).reverse++y::B=t.reverse++y::(y::B) by simp];exact ls_mid _ _ _ _ _ hl2
   have g3:gi ((y::t).reverse++y::B) (t.length:Int)=some y:=by
    rw [show (y::t).reverse++y::B=t.reverse++y::(y::B) by simp];exact gi_mid _ _ _ _ hl2
   rw [if_pos (by simpa using c),ob_,ob_,s1,g3,ob_,s2,ins_l1 t (y::B) x f (by simp at h;omega) (by simp at hb;omega)]
   rw [show insR x (y::t)=y::insR x t by rw [insR,if_pos c]];simp
  ·rw [if_neg (by simpa using c)]
   rw [show insR x (y::t)=x::y::t by rw [insR,if_neg c]];simp
theorem ins_l0:∀(rest P:List UInt64) (f:Nat),rest.length<f→P.length+rest.length≤1000 →
  slices_insertionSortOrdered_uint64_o0_l0 0 ((P.length+rest.length:Nat):Int) f (P.length:Int) (P.reverse++rest)=some ((rest.foldl (fun P x=>insR x P) P).reverse)
 | _,_,0,h,_=>by omega
 | [],P,f+1,_,_=>by
  unfold slices_insertionSortOrdered_uint64_o0_l0
  rw [if_neg (by simp)];simp
 | x::rest,P,f+1,h,hb=>by
  rw [List.length_cons] at h hb
  have e:=ins_l1 P rest x 1100 (by omega) (by omega)
  have hl:(insR x P).length=P.length+1:=by rw [(insR_perm x P).length_eq];rfl
  have ih:=ins_l0 rest (insR x P) f (by omega) (by omega)
  rw [hl] at ih
  have ei:i64 ((P.length:Int)+1)=((P.length+1:Nat):Int):=by rw [i64sm _ (by omega) (by omega)];omega
  unfold slices_insertionSortOrdered_uint64_o0_l0
  rw [if_pos (by simp <;> omega),e,ob_,ob_,ei,show P.length+(x::rest).length=P.length+1+rest.length by simp <;> omega]
  exact ih
theorem len12:∀n:Fin 13,(Ec (toW ((n:Nat):Int))).isSome=true:=by decide +kernel
theorem sort_ok(l:List UInt64)(h:l.length≤12):slices_Sort___uint64_uint64_o0 l=some (usort l):=by
 unfold slices_Sort___uint64_uint64_o0 slices_pdqsortOrdered_uint64_o0 slices_insertionSortOrdered_uint64_o0
 have hL:=len12 ⟨l.length,by omega⟩
 obtain ⟨r,hr⟩:=Option.isSome_iff_exists.1 hL
 have hr:Ec (toW (l.length:Int))=some r:=hr
 rw [hr,ob_,i64sm _ (by omega) (by omega),if_pos (by simp <;> omega),show i64 (0+1)=1 from z]
 cases l with
 | nil=>rfl
 | cons x l =>
  have:=ins_l0 l [x] ((((x::l).length:Int)-1).toNat+1) (by simp <;> omega) (by simp at h ⊢;omega)
  rw [show (([x]:List UInt64).length+l.length:Nat)=(x::l).length by simp <;> omega] at this
  rw [show (([x]:List UInt64).length:Int)=1 from z] at this
  rw [show ([x]:List UInt64).reverse++l=x::l from z] at this
  rw [this];rfl
theorem nd_le{α:Type}[DecidableEq α]:∀{l l':List α},l.Nodup→(∀k∈l,k∈l')→l.length≤l'.length
 | [],_,_,_=>Nat.zero_le _
 | a::l,l',h,hs=>by
  have h1:=List.nodup_cons.1 h
  have h2:=nd_le (l':=l'.erase a) h1.2 fun k hk=>(List.mem_erase_of_ne (by rintro rfl;exact h1.1 hk)).2 (hs k (.tail _ hk))
  have ha:=hs a (.head _)
  rw [List.length_erase_of_mem ha] at h2
  have:=List.length_pos_of_mem ha
  rw [List.length_cons];omega
def mkeysW{V:Type}(m:List (UInt64×V)):Option (List UInt64):=if decide (m.length≤12) then some (usort (m.map (·.1))) else none
theorem vW_inj(a b:UInt64)(h:vW a=vW b):a=b:=by
 unfold vW at h
 injection h with _ h2
 exact UInt64.toNat_inj.1 (by omega)
theorem mkeys64{G R}{F:List HP}{V:Type}{vv:V→Value}{v:Value}{m:List (UInt64×V)}: CO prog 53 [v] G R (OwM vW vv v m::F) (Ret fun u R' L'=>∃b,u = .func (.func 95) #[] #[pt b 0]∧R'=R∧L'=Bk b 94 [v]::OwM vW vv v m::F):=by
 refine co_hdm fun a e =>?_
 subst e
 refine co_ofN (N:=4) func53 z z ?_
 refine csr ?_
 refine r_new (o_bx [.map a] z z) fun b =>?_
 refine r_as z (nsr ?_)
 refine r_u (o_mf (vs:=[pt b 0]) z) (r_as z (r_nil (x_seq (c_ret ?_))))
 exact x_r1 z (rv_t z) le_ ⟨_,z,b,z,z,z⟩
theorem keys64{G R}{V:Type}{vv:V→Value}{a:Option Nat}{m:List (UInt64×V)}{b:Nat}(hnd:(m.map (·.1)).Nodup):
  GivesP prog G R 95 [pt b 0] vW (fun pre k=>k∈m.map (·.1)∧k∉pre) (fun kz=>kz.Perm (m.map (·.1))) [Bk b 94 [.map a],OwM vW vv (.map a) m]:=by
 intro l F Inv h0 hY
 change CO prog 95 [.func (.yield l) #[] #[],pt b 0] G R (Bk b 94 [.map a]::OwM vW vv (.map a) m::F) (Ret fun u R' L'=>u = .tuple #[]∧R'=R∧∃F' kz,L'=Bk b 94 [.map a]::OwM vW vv (.map a) m::F'∧kz.Perm (m.map (·.1))∧Inv kz F')
 refine co_ofN (N:=14) func95 z z ?_
 refine csr (r_ld 0 sc94 z z z ?_)
 refine rl_st (fun _ h=>mv1 h) ?_
 refine r_sw (s_w (o_rng underlying94 z z)) ?_
 rintro _ R _ _ ⟨rfl,it,rfl,rfl⟩
 refine r_nil (x_seq (c_blk ?_))
 refine cd_loop (σ:=List UInt64×Option (UInt64×V)×List HP) (M:=fun n s=>Inv s.1 s.2.2∧s.1.Nodup∧(∀k∈s.1,k∈m.map (·.1))∧s.1.length+n=m.length+1)
  (Ef:=fun _=>[(0,.func (.yield l) #[] #[]),(1,pt b 0),(5,pt it 0)]) (Lf:=fun s=>MpI vW vv (.map a) m it s.2.1 s.1::Bk b 94 [.map a]::s.2.2)
  (m.length+1) ([],none,F) ⟨h0,List.nodup_nil,(fun _ h=>nomatch h),by simp⟩ ⟨z,z,z,y_⟩ (fun _ h=>h) (fun s h =>?_) fun n s hM =>?_
 ·have h1:=nd_le h.2.1 h.2.2.1
  have h2:=h.2.2.2
  rw [List.length_map] at h1
  omega
 obtain ⟨done,cur,Fc⟩:=s
 obtain ⟨hInv,hd1,hd2,hd3⟩:=hM
 replace hInv:Inv done Fc:=hInv
 replace hd1:done.Nodup:=hd1
 replace hd2:∀k∈done,k∈m.map (·.1):=hd2
 replace hd3:done.length+(n+1)=m.length+1:=hd3
 change CD _ _ _ [(0,.func (.yield l) #[] #[]),(1,pt b 0),(5,pt it 0)] R (MpI vW vv (.map a) m it cur done::Bk b 94 [.map a]::Fc)
 refine csr ?_
 refine r_sw (s_w (o_nxt vW_inj z z)) ?_
 rintro _ R _ _ ⟨rfl,hc⟩
 rcases hc with ⟨rfl,hall,rfl⟩ | ⟨p,hp,hnp,rfl,rfl⟩
 ·refine r_ext z z (r_nil (x_seq (c_seq (c_ff z ?_))))
  refine c_exit (x_exit (ks':=_) z ?_)
  refine x_end ?_
  refine ex_st (fun w h=>mv1 (MpI.own w h)) ?_
  refine x_r0 z le_ ⟨_,z,z,z,Fc,done,z,(List.perm_ext_iff_of_nodup hd1 hnd).2 fun k=>⟨hd2 k,fun hk =>?_⟩,hInv⟩
  obtain ⟨q,hq,rfl⟩:=List.mem_map.1 hk
  exact hall q hq
 refine r_ext z z (r_nil (x_seq (c_seq ?_)))
 refine c_tt z ?_
 refine c_skip (x_seq (c_blk (csr ?_)))
 refine r_u (o_ent 0 z z) (r_ext z z (r_as z (nsr (r_mv z (r_mv z ?_)))))
 refine r_w (o_yield z z (hY [MpI vW vv (.map a) m it (some p) (done++[p.1]),Bk b 94 [.map a]] done p.1 Fc hInv ⟨List.mem_map.2 ⟨p,hp,z⟩,hnp⟩)) (fun v R' L' _ hC =>?_)
 obtain ⟨hv,hR',F',hL',hInv'⟩:=hC
 subst hv;subst hL';subst hR'
 refine r_u (o_not z) (nsq (c_ff z (c_skip (x_blk ?_))))
 refine x_lp (done++[p.1],some p,F') ⟨hInv',?_,fun k hk =>?_,?_⟩ ⟨z,z,z,y_⟩ (fun _ h=>h)
 ·exact List.nodup_append.2 ⟨hd1,by simp,fun x hx y hy e=>by rw [List.mem_singleton] at hy;subst hy;subst e;exact hnp hx⟩
 ·rcases List.mem_append.1 hk with hk | hk
  ·exact hd2 k hk
  rw [List.mem_singleton] at hk;subst hk;exact List.mem_map.2 ⟨p,hp,z⟩
 show (done++[p.1]).length+n=m.length+1
 rw [List.length_append,List.length_singleton];omega
theorem appendSeq64{G R F}{V:Type}{vv:V→Value}{a:Option Nat}{m:List (UInt64×V)}{b:Nat}(hnd:(m.map (·.1)).Nodup)(h12:m.length≤12):
  CO prog 147 [.slice none 0 0,.func (.func 95) #[] #[pt b 0]] G R (Bk b 94 [.map a]::OwM vW vv (.map a) m::F)
   (Ret fun u R' L'=>R'=R∧∃kz:List UInt64,kz.Perm (m.map (·.1))∧L'=OwS true 22 1 eW u kz::Bk b 94 [.map a]::OwM vW vv (.map a) m::F):=by
 refine co_ofM (N:=13) func147 z z ?_
 refine csr ?_
 refine r_new (o_bx [.slice none 0 0] z z) fun b2 =>?_
 refine r_as z (nssr (r_mv z (r_nil (x_seq (c_blk ?_)))))
 refine cd_st (fun _ h=>st_nil (ap:=true) (T:=22) (sz:=1) (en:=eW) h) ?_
 refine cd_st (pk 5 [3,4,1,0,2]) ?_
 refine c_rangeP (A0:=[Bk b 94 [.map a],OwM vW vv (.map a) m]) (L0:=Bk b2 118 [.slice none 0 0]::OwS true 22 1 eW (.slice none 0 0) []::MkC []::F)
  (fun pre L=>(∃v,L=Bk b2 118 [v]::OwS true 22 1 eW v pre::MkC []::F)∧pre.Nodup∧∀k∈pre,k∈m.map (·.1))
  rfl ca95 rfl (keys64 hnd) ⟨⟨_,rfl⟩,List.nodup_nil,(fun _ h=>nomatch h)⟩
  (E1:=fun k=>[(2,pt b2 0),(5,vW k)]) (fun k y e1 e2 e3 e4 ks L hx =>?_) (fun l T pre k L1 hi hok =>?_) (fun D L1 kz hfin hi =>?_)
 ·refine c_reg ?_
  refine r_as z ?_ (by rw [e3];rfl)
  refine r_nil ?_
  exact ex_sub (E':=[(2,pt b2 0),(5,vW k)]) ⟨z,z,y_⟩ hx
 ·obtain ⟨⟨v,rfl⟩,hp1,hp2⟩:=hi
  have hle:=nd_le hp1 hp2
  rw [List.length_map] at hle
  have hb:apd 8 pre [k]=some (pre++[k]):=by
   unfold apd;rw [if_pos];simp only [List.length_cons,List.length_nil];omega
  change CD _ _ _ _ R (Bk b2 118 [v]::OwS true 22 1 eW v pre::MkC []::(F++T))
  refine c_blk (c_reg (r_ld 0 sc118 z z z (r_mv z ?_)))
  refine r_sw (s_w (o_bsl (en:=eW) (sz:=1) (e:=22) (cs:=[vW k]) (r:=[k]) z kr z (by decide) z (fun _=>z))) ?_
  rintro v22 R _ _ ⟨rfl,rfl⟩
  refine rl_st (pk 3 [2,0,1]) ?_
  refine r_sw (s_w (o_ap (sz:=1) (bytes:=8) 0 underlying118 z z z z z (by decide) (by decide) (fun _ _ _ h=>by simp at h;subst h;rfl) (fun _=>z) z z z z (Nat.succ_pos _) hb)) ?_
  rintro v23 R _ _ ⟨rfl,rfl⟩
  refine rl_st (fun _ h=>mv2 h) ?_
  refine r_u0 (ou_if (one_o 1 z) fun ho0=>o_st sc118 z z z ho0 z z) ?_
  refine r_nil (x_blk ?_)
  refine ex_st (pk 4 [0,1,3]) ?_
  refine x_round z le_ ⟨z,z,Bk b2 118 [v23]::OwS true 22 1 eW v23 (pre++[k])::MkC []::F,z,⟨v23,z⟩,?_,fun q hq =>?_⟩
  ·exact List.nodup_append.2 ⟨hp1,by simp,fun x hx y hy e=>by rw [List.mem_singleton] at hy;subst hy;subst e;exact hok.2 hx⟩
  ·rcases List.mem_append.1 hq with hq | hq
   ·exact hp2 q hq
   ·rw [List.mem_singleton] at hq;subst hq;exact hok.1
 ·obtain ⟨⟨v,rfl⟩,_,_⟩:=hi
  refine x_blk (x_seq (csr (r_ld 3 sc118 z z z (r_as z (r_nil (x_seq (c_ret ?_)))))))
  refine ex_st (fun w h=>mk_add (st_pk 6 [0,5,4,1,2] (by decide) h)) ?_
  exact x_m1 z (rv_t z) (fun _ h=>h) le_ ⟨_,z,z,kz,hfin,z⟩
theorem collect64{G R F}{V:Type}{vv:V→Value}{a:Option Nat}{m:List (UInt64×V)}{b:Nat}(hnd:(m.map (·.1)).Nodup)(h12:m.length≤12):
  CO prog 93 [.func (.func 95) #[] #[pt b 0]] G R (Bk b 94 [.map a]::OwM vW vv (.map a) m::F)
   (Ret fun u R' L'=>R'=R∧∃kz:List UInt64,kz.Perm (m.map (·.1))∧L'=OwS true 22 1 eW u kz::Bk b 94 [.map a]::OwM vW vv (.map a) m::F):=by
 refine co_ofN (N:=5) func93 z z ?_
 refine csr (r_as z (nsr (r_mv z ?_)))
 refine r_sw (s_w (o_call ca147 z (appendSeq64 hnd h12))) ?_
 rintro v R _ _ ⟨rfl,kz,hkz,rfl⟩
 refine r_as z (r_nil (x_seq (c_ret ?_)))
 exact x_r1 z (rv_t z) le_ ⟨_,z,z,kz,hkz,z⟩
theorem sorted64{G R}{F:List HP}{V:Type}{vv:V→Value}{v:Value}{m:List (UInt64×V)}{b:Nat}{r:List UInt64}(hm:mkeysW m=some r):
  CO prog 52 [.func (.func 95) #[] #[pt b 0]] G R (Bk b 94 [v]::OwM vW vv v m::F) (Ret fun u R' L'=>R'=R∧L'=OwS true 22 1 eW u r::OwM vW vv v m::F):=by
 unfold mkeysW at hm
 split at hm
 case isFalse=>cases hm
 rename_i hc
 obtain rfl:=si hm
 simp only [decide_eq_true_eq] at hc
 refine co_ndm 1 z fun a e hnd =>?_
 subst e
 refine co_ofN (N:=9) func52 z z ?_
 refine csr (r_as z (nsr (r_mv z ?_)))
 refine r_sw (s_w (o_call ca93 z (collect64 hnd hc))) ?_
 rintro v R _ _ ⟨rfl,kz,hkz,rfl⟩
 refine r_as z (nsr (r_mv z ?_))
 have hs:=sort_ok kz (by rw [hkz.length_eq,List.length_map];exact hc)
 rw [usort_of hkz] at hs
 refine r_c (s_w (o_call ca94 z (slices_Sort___uint64_uint64_o0.ok v kz _ hs))) ?_
 refine nsr (r_mv z (r_as z (r_nil (x_seq (c_ret ?_)))))
 refine ex_st (pk 2 [0]) ?_
 exact x_r1 z (rv_t z) le_ ⟨_,z,z,z⟩
def DT : Nat→UInt64→Str→Option (UInt64×Str)
 | 0,_,_=>none
 | k9+1,n_7,c_8=>if decide (128≤n_7) then (apd 1 c_8 [((n_7%128).toUInt8)+128]).bind fun l14=>DT k9 (n_7/128) l14 else some (n_7,c_8)
def AJ(a0:UInt64):Option Str :=
 Option.bind (DT 11 a0 []) fun p1=>(apd 1 p1.2 [p1.1.toUInt8]).bind fun l5=>some l5
theorem AJ.ok{G R F}(a0:UInt64)(r:Str)(hm:AJ a0=some r):CO prog 49 [vW a0] G R (F)
  (Ret fun u R' L'=>u=vS r∧R'=R∧L'=F):=by
 unfold AJ at hm
 refine co_ofN (N:=17) func49 z z ?_
 refine csr (r_as z (nsr ?_))
 refine r_new (o_al ze167) fun b0 =>?_
 refine rl_st (fun _ h=>bld_new (e:=5) h) ?_
 refine r_nil (x_seq (c_seq ?_))
 obtain ⟨p1,hp2,hm3⟩:=bs hm
 refine cd_join (E':=[(3,pt b0 0),(0,vW p1.1)]) (L':=Bld 167 5 b0 p1.2::F) ?_ fun K4 =>?_
 ·refine x_seq (csr (r_mv z (r_u (o_cv z (cWY underlying22 underlying5 p1.1)) ?_)))
  obtain ⟨l5,hl5,hm6⟩:=bs hm3
  refine r_c (s_w (o_call ca88 z (bld_WriteByte.ok b0 p1.2 p1.1.toUInt8 _ hl5))) ?_
  refine nsr ?_
  refine r_c (s_w (o_call ca89 z (bld_String.ok b0 l5))) ?_
  refine r_as z (r_nil (x_seq (c_ret ?_)))
  obtain rfl:=si hm6
  exact x_r1 z (rv_t z) le_ ⟨_,z,z,z,z⟩
 refine c_blk ?_
 refine cd_loop (M:=fun k9 (s:UInt64×Str)=>DT k9 s.1 s.2=some p1) (Ef:=fun (s:UInt64×Str)=>[(3,pt b0 0),(0,vW s.1)]) (Lf:=fun (s:UInt64×Str)=>Bld 167 5 b0 s.2::F) 11 (a0,[]) hp2 ⟨z,z,y_⟩ (fun _ h=>h) (fun _ h=>by cases h) fun k9 s hM11 =>?_
 obtain ⟨n_7,c_8⟩:=s
 have hm10:DT (k9+1) n_7 c_8=some p1:=hM11
 rw [DT] at hm10
 refine c_seq (csr (r_mv z (r_bin z z (bW_ge _ 128) (nsq ?_))))
 refine c_if (b:=decide (128≤n_7)) z (fun h12 =>?_) fun h12 =>?_
 ·have hm13:=ift hm10 h12
  refine c_skip (x_seq (c_seq (c_blk (c_reg (r_mv z (r_bin z z (bW_rem _ 128 (by decide)) (r_u (o_cv z (cWY underlying22 underlying5 (n_7%128))) (r_bin z z (bY_add _ 128) ?_))))))))
  obtain ⟨l14,hl14,hm15⟩:=bs hm13
  refine r_c (s_w (o_call ca88 z (bld_WriteByte.ok b0 c_8 (((n_7%128).toUInt8)+128) _ hl14))) ?_
  refine r_nil (x_blk (x_seq (c_reg (r_mv z (r_bin z z (bW_quo _ 128 (by decide)) (r_as z (r_nil ?_)))))))
  exact x_lp (n_7/128,l14) hm15 ⟨z,z,y_⟩ id_
 have hm13:=iff_ hm10 h12
 refine c_exit (x_exit (ks':=_) z ?_)
 obtain rfl:=si hm13
 exact x_sub K4 ⟨z,z,y_⟩ id_
def Dw(a0:Str):Option Str :=
 (AJ (toW (a0.length:Int))).bind fun r0=>if r0.length+a0.length≤maxS then some (r0++a0) else none
theorem Dw.ok{G R F}(a0:Str)(r:Str)(hm:Dw a0=some r):CO prog 90 [vS a0] G R (F)
  (Ret fun u R' L'=>u=vS r∧R'=R∧L'=F):=by
 unfold Dw at hm
 refine co_ofN (N:=9) func90 z z ?_
 refine csr (r_as z (nsr (r_mv z (r_u (o_lenS underlying9 z) (r_u (o_cv z (cIW underlying3 underlying22 (a0.length:Int))) ?_)))))
 obtain ⟨r0,hr0,hm1⟩:=bs hm
 refine r_u (o_callq ca49 z (AJ.ok _ _ hr0)) (r_mv z ?_)
 obtain ⟨h2,hm3⟩:=ig hm1
 refine r_bin z z (bS_add r0 a0 h2) (r_as z (r_nil (x_seq (c_ret ?_))))
 obtain rfl:=si hm3
 exact x_r1 z (rv_t z) le_ ⟨_,z,z,z,z⟩
def AN(a0:Au):Au :=
 (⟨i64 (1+(iand a0.Policy 1)),i64 (1+(iand a0.Entries 15)),i64 (1+(iand a0.Bytes 1023)),a0.Seed⟩:Au)
theorem AN.ok{G R F}(a0:Au)(r:Au)(hm:AN a0=r):CO prog 18 [.agg (Au.c a0).toArray] G R (F)
  (Ret fun u R' L'=>u = .agg (Au.c r).toArray∧R'=R∧L'=F):=by
 unfold AN at hm
 refine co_ofN (N:=19) func18 z z ?_
 refine csr ?_
 refine r_new (o_bx (Au.c a0) z z) fun b0 =>?_
 refine r_new (o_al ze24) fun b1 =>?_
 refine nsr (r_fa fa24_0 z (r_ld 1 sc3 z z z (r_bin z z (bI_and _ 1) (r_bin z z (bI_add 1 _) (r_fa fa24_1 z (r_ld 1 sc3 z z z (r_bin z z (bI_and _ 15) (r_bin z z (bI_add 1 _) (r_fa fa24_2 z (r_ld 1 sc3 z z z (r_bin z z (bI_and _ 1023) (r_bin z z (bI_add 1 _) (r_fa fa24_0 z ?_)))))))))))))
 refine rl_st (fun _ h=>mv1 h) ?_
 refine r_u0 (o_st sc3 z z z z z z) (r_fa fa24_1 z ?_)
 refine r_u0 (o_st sc3 z z z z z z) (r_fa fa24_2 z ?_)
 refine r_u0 (o_st sc3 z z z z z z) (nsr ?_)
 refine r_u (o_ldn 0 [vI (i64 (1+(iand a0.Policy 1))),vI (i64 (1+(iand a0.Entries 15))),vI (i64 (1+(iand a0.Bytes 1023))),vW a0.Seed] ag24 z z z z) ?_
 refine rl_st (fun _ h=>mv1 h) ?_
 refine r_u0 (o_stn ag24 z z z z z z z) (r_nil (x_seq (c_ret ?_)))
 subst hm
 exact x_d1 z (rv_n 0 [vI (i64 (1+(iand a0.Policy 1))),vI (i64 (1+(iand a0.Entries 15))),vI (i64 (1+(iand a0.Bytes 1023))),vW a0.Seed] ag24 z z z z) (pk 2 []) le_ ⟨_,z,z,z,z⟩
def DU(a0:Au):Bool :=
 ((((((a0.Policy==1)||(a0.Policy==2))&&decide (1≤a0.Entries))&&decide (a0.Entries≤1000))&&decide (1≤a0.Bytes))&&decide (a0.Bytes≤1048576))
theorem DU.ok{G R F}(a0:Au)(r:Bool)(hm:DU a0=r):CO prog 29 [.agg (Au.c a0).toArray] G R (F)
  (Ret fun u R' L'=>u=vB r∧R'=R∧L'=F):=by
 unfold DU at hm
 refine co_ofN (N:=33) func29 z z ?_
 refine csr ?_
 refine r_new (o_bx (Au.c a0) z z) fun b0 =>?_
 refine r_as z (nsr (r_fa fa24_0 z (r_ld 0 sc3 z z z (r_bin z z (bI_eq _ 1) (r_mv z ?_)))))
 refine r_s (s_gf z z fun g=>o_fa fa24_0 z) ?_
 refine r_s (s_gf z z fun g=>o_ld 0 sc3 (evg z g) z z) ?_
 refine r_s (s_gf z z fun g=>o_bin (evg z g) z (bI_eq _ 2)) ?_
 refine r_u (o_or z z) (r_as z (nsr (r_mv z (r_mv z ?_))))
 refine r_s (s_gt z z fun g=>o_fa fa24_1 z) ?_
 refine r_s (s_gt z z fun g=>o_ld 0 sc3 (evg z g) z z) ?_
 refine r_s (s_gt z z fun g=>o_bin (evg z g) z (bI_ge _ 1)) ?_
 refine r_u (o_and z z) (r_mv z ?_)
 refine r_s (s_gt z z fun g=>o_fa fa24_1 z) ?_
 refine r_s (s_gt z z fun g=>o_ld 0 sc3 (evg z g) z z) ?_
 refine r_s (s_gt z z fun g=>o_bin (evg z g) z (bI_le _ 1000)) ?_
 refine r_u (o_and z z) (r_mv z ?_)
 refine r_s (s_gt z z fun g=>o_fa fa24_2 z) ?_
 refine r_s (s_gt z z fun g=>o_ld 0 sc3 (evg z g) z z) ?_
 refine r_s (s_gt z z fun g=>o_bin (evg z g) z (bI_ge _ 1)) ?_
 refine r_u (o_and z z) (r_mv z ?_)
 refine r_s (s_gt z z fun g=>o_fa fa24_2 z) ?_
 refine r_s (s_gt z z fun g=>o_ld 0 sc3 (evg z g) z z) ?_
 refine r_s (s_gt z z fun g=>o_bin (evg z g) z (bI_le _ 1048576)) ?_
 refine r_u (o_and z z) (r_as z (r_nil (x_seq (c_ret ?_))))
 subst hm
 refine ex_st (pk 1 []) ?_
 exact x_r1 z (rv_t z) le_ ⟨_,z,z,z,z⟩
def D1(a0:Int):Nat→Int→(List Int)→Option (List Int)
 | 0,_,_=>none
 | k28+1,i_25,c_26=>if decide (0≤i_25) then (apd 8 c_26 [i64 (a0+i_25)]).bind fun l35=>D1 a0 k28 (i64 (i_25-1)) l35 else some c_26
def D2(a0:Int):Nat→Int→(List Av)→Option (List Av)
 | 0,_,_=>none
 | k39+1,s_37,c_38=>if decide (s_37<a0) then (gi c_38 s_37).bind fun x44=>D2 a0 k39 (i64 (s_37+1)) (ls c_38 s_37 (⟨[],s_37,s_37,s_37⟩:Av)) else some c_38
def DZ(a0:Int)(a1:Int):Option (Option Aj×Int) :=
 if (((decide (a0<1)||decide (8<a0))||decide (a1<0))||decide (4096<a1)) then some (none,1) else (mks 8 a0 (0:Int)).bind fun l11=>(mks 40 (i64 (a0+a1)) ((⟨[],0,0,0⟩:Av):Av)).bind fun l13=>Option.bind (D2 a0 ((a0-0).toNat+1) 0 l13) fun p16=>Option.bind (D1 a0 (((i64 (a1-1))+1).toNat+1) (i64 (a1-1)) []) fun p20=>some ((some (⟨a0,p16,p20,[],l11⟩:Aj)),0)
theorem DZ.ok{G R F}(a0:Int)(a1:Int)(r:Option Aj×Int)(hm:DZ a0 a1=some r):CO prog 128 [vI a0,vI a1] G R (F)
  (Ret fun u R' L'=>∃(p0:Value×Aj.G),u = .tuple #[p0.1,vI r.2]∧R'=R∧L'=rO (Aj.op p0.2) p0.1 r.1::F):=by
 unfold DZ at hm
 refine co_ofN (N:=67) func128 z z ?_
 refine csr (r_as z (r_as z (nssr (r_mv z (r_bin z z (bI_lt a0 1) (r_mv z ?_))))))
 refine r_s (s_gf z z fun g=>o_mv z) ?_
 refine r_s (s_gf z z fun g=>o_bin (evg z g) z (bI_gt a0 8)) ?_
 refine r_u (o_or z z) (r_mv z ?_)
 refine r_s (s_gf z z fun g=>o_mv z) ?_
 refine r_s (s_gf z z fun g=>o_bin (evg z g) z (bI_lt a1 0)) ?_
 refine r_u (o_or z z) (r_mv z ?_)
 refine r_s (s_gf z z fun g=>o_mv z) ?_
 refine r_s (s_gf z z fun g=>o_bin (evg z g) z (bI_gt a1 4096)) ?_
 refine r_u (o_or z z) (nsq ?_)
 refine c_if (b:=(((decide (a0<1)||decide (8<a0))||decide (a1<0))||decide (4096<a1))) z (fun h0 =>?_) fun h0 =>?_
 ·have hm1:=ift hm h0
  refine csr (r_as z (r_as z (r_nil (x_seq (c_ret ?_)))))
  refine ex_st (fun _ h=>st_none (f:=Aj.op default) h) ?_
  obtain rfl:=si hm1
  exact x_r2 z (rv_t z) (rv_t z) le_ ⟨_,z,(nl,default),z,z,z⟩
 have hm1:=iff_ hm h0
 refine c_skip (x_seq (c_seq ?_))
 obtain ⟨l11,hl11,hm12⟩:=bs hm1
 obtain ⟨l13,hl13,hm14⟩:=bs hm12
 refine c_anyF mixed (effs:=[9]) (fr:=[(1,fun u=>OwM vS vI u []),(3,fun u=>OwS true 3 1 eI u l11),(7,fun u=>OwS true 240 4 Av.c u l13)]) (V:=[]) z ?_
 refine stageF_ext [(0,vI a0),(2,vI a0),(4,vI a0),(5,vI a1),(6,vI (i64 (a0+a1)))] z ?_
 refine stageG z z z z z z mk2_ [0,2,4,5,6] [] (by kernel_rfl) (by kernel_rfl) (by kernel_rfl) (by kernel_rfl) (tc z z (fun A=>s_u (o_mv z)) (tc z z (fun A=>s_u (o_mv z)) (tc z z (fun A=>s_u (o_mv z)) (tc z z (fun A=>s_u (o_mv z)) (tc z z (fun A=>s_u (o_bin z z (bI_add a0 a1))) tn))))) (fcons z (fun A=>s_w (o_mm (kv:=vS) (vv:=vI))) (fcons z (fun A=>s_w (o_mk (sz:=1) (bytes:=8) (e:=3) (en:=eI) underlying234 z z z z z z z z z hl11)) (fcons z (fun A=>s_w (o_mk (sz:=4) (bytes:=40) (e:=240) (en:=Av.c) underlying233 z z z z z z z z z hl13)) fnil))) etn fun bt10 =>?_
 refine stage_ext [(8,.agg [vI a0,(bt10 7),.slice none 0 0,(bt10 1),(bt10 3)].toArray)] z ?_
 refine stage z z z z mk2_ [0,8] [9] (by kernel_rfl) (by kernel_rfl) (by kernel_rfl) (q_mv z z z (q_u z z (ou_if (hd_m 0 z) fun hb0=>ou_if (hd_o 1 z) fun hb1=>ou_if (hd_o 2 z) fun hb2=>o_bld [vI a0,(bt10 7),.slice none 0 0,(bt10 1),(bt10 3)] z (fun _=>by obtain ⟨_,he0⟩:=hb0;rw [he0];obtain ⟨_,_,he1⟩:=hb1;rw [he1];obtain ⟨_,_,he2⟩:=hb2;rw [he2];kernel_rfl)) qn)) ?_ (fun h=>absurd (show false=true from h) (by decide))
 refine ec (eo_n z (s_w (o_bx [vI a0,(bt10 7),.slice none 0 0,(bt10 1),(bt10 3)] z z)) fun b15 =>?_) en
 refine stage_ext [(10,pt b15 0)] z ?_
 refine stage z z z z mk2_ [10] [] (by kernel_rfl) (by kernel_rfl) (by kernel_rfl) (q_u z z (o_as z) qn) en ?_
 intro _
 refine ex_sub (E':=[(0,vI a0),(1,vI a1),(6,pt b15 0)]) ⟨z,z,z,y_⟩ ?_
 refine x_seq (c_seq (csr (r_mv z (r_mv z (nsq ?_)))))
 obtain ⟨p16,hp17,hm18⟩:=bs hm14
 refine cd_join (E':=[(0,vI a0),(1,vI a1),(6,pt b15 0)]) (L':=Bk b15 237 [vI a0,(bt10 7),.slice none 0 0,(bt10 1),(bt10 3)]::OwM vS vI (bt10 1) []::OwS true 3 1 eI (bt10 3) l11::OwS true 240 4 Av.c (bt10 7) p16::F) ?_ fun K19 =>?_
 rotate_left
 ·refine c_blk ?_
  refine cd_loop (M:=fun k39 (s:Int×List Av)=>D2 a0 k39 s.1 s.2=some p16) (Ef:=fun (s:Int×List Av)=>[(0,vI a0),(1,vI a1),(6,pt b15 0),(33,vI a0),(34,vI s.1)]) (Lf:=fun (s:Int×List Av)=>Bk b15 237 [vI a0,(bt10 7),.slice none 0 0,(bt10 1),(bt10 3)]::OwM vS vI (bt10 1) []::OwS true 3 1 eI (bt10 3) l11::OwS true 240 4 Av.c (bt10 7) s.2::F) ((a0-0).toNat+1) (0,l13) hp17 ⟨z,z,z,z,z,y_⟩ (fun _ h=>h) (fun _ h=>by cases h) fun k39 s hM41 =>?_
  obtain ⟨s_37,c_38⟩:=s
  have hm40:D2 a0 (k39+1) s_37 c_38=some p16:=hM41
  rw [D2] at hm40
  refine csr (r_bin z z (bI_lt _ a0) (r_nil (x_seq (c_seq ?_))))
  refine c_if (b:=decide (s_37<a0)) z (fun h42 =>?_) fun h42 =>?_
  rotate_left
  ·have hm43:=iff_ hm40 h42
   refine c_exit (x_exit (ks':=_) z ?_)
   obtain rfl:=si hm43
   exact x_sub K19 ⟨z,z,z,y_⟩ id_
  have hm43:=ift hm40 h42
  refine c_skip (x_seq (c_seq (c_blk (csr (r_mv z (r_as z (r_nil (x_seq (c_reg (r_mv z (r_nc z (r_fa fa237_1 z (r_ld 0 sc233 z z z (r_mv z (r_mv z (r_mv z (r_mv z ?_)))))))))))))))))
  refine r_u (o_bld [vS [],vI s_37,vI s_37,vI s_37] z kr) ?_
  obtain ⟨x44,hx44,hm45⟩:=bs hm43
  refine r_u (o_ixO 3 underlying233 kr z z z hx44) ?_
  refine rl_st (fun _ h=>mv3 h) ?_
  refine r_u0 (o_stnO (c':=(⟨[],s_37,s_37,s_37⟩:Av)) ag240 z z z hx44 z z z) (r_nil (x_blk (x_seq (c_reg (r_bin z z (bI_add _ 1) (r_mv z (r_nil ?_)))))))
  exact x_lp (i64 (s_37+1),ls c_38 s_37 (⟨[],s_37,s_37,s_37⟩:Av)) hm45 ⟨z,z,z,z,z,y_⟩ (pk 4 [1,2,3,0])
 refine x_seq (c_seq (csr (r_mv z (r_bin z z (bI_sub a1 1) (r_as z (nsq ?_))))))
 obtain ⟨p20,hp22,hm23⟩:=bs hm18
 refine cd_cut (fun x ks=>∀(g21:Value),EX x .normal ks [(6,pt b15 0)] R (Bk b15 237 [vI a0,(bt10 7),g21,(bt10 1),(bt10 3)]::OwM vS vI (bt10 1) []::OwS true 3 1 eI (bt10 3) l11::OwS true 240 4 Av.c (bt10 7) p16::OwS true 3 1 eI g21 p20::F)) ?_ fun K24 =>?_
 ·intro g21
  refine x_seq (csr (r_mv z (r_as z (r_as z (r_nil (x_seq (c_ret ?_)))))))
  refine ex_st (fun _ h=>mv4 (mv4 (mv4 (mv2 (mv2 h))))) ?_
  refine ex_st (fun _ h=>st_some (f:=Aj.op (⟨(bt10 7),g21,(bt10 1),(bt10 3)⟩:Aj.G)) (a:=(⟨a0,p16,p20,[],l11⟩:Aj)) (st_star_f (A:=Aj.fl b15 (⟨a0,p16,p20,[],l11⟩:Aj) (⟨(bt10 7),g21,(bt10 1),(bt10 3)⟩:Aj.G)) h)) ?_
  obtain rfl:=si hm23
  exact x_r2 z (rv_t z) (rv_t z) le_ ⟨_,z,(pt b15 0,(⟨(bt10 7),g21,(bt10 1),(bt10 3)⟩:Aj.G)),z,z,z⟩
 refine c_blk ?_
 refine cd_st (fun _ h=>st_nil (ap:=true) (T:=3) (sz:=1) (en:=eI) h) ?_
 refine cd_loopG (M:=fun k28 (s:Int×List Int×Value)=>D1 a0 k28 s.1 s.2.1=some p20) (Ef:=fun (s:Int×List Int×Value)=>[(0,vI a0),(6,pt b15 0),(8,vI s.1)]) (Rf:=fun (s:Int×List Int×Value)=>R) (Lf:=fun (s:Int×List Int×Value)=>Bk b15 237 [vI a0,(bt10 7),s.2.2,(bt10 1),(bt10 3)]::OwM vS vI (bt10 1) []::OwS true 3 1 eI (bt10 3) l11::OwS true 240 4 Av.c (bt10 7) p16::OwS true 3 1 eI s.2.2 s.2.1::F) (((i64 (a1-1))+1).toNat+1) (i64 (a1-1),[],.slice none 0 0) hp22 ⟨z,z,z,y_⟩ (pk 5 [1,2,3,4,0]) (fun _ h=>by cases h) fun k28 s hM30 =>?_
 obtain ⟨i_25,c_26,g27⟩:=s
 have hm29:D1 a0 (k28+1) i_25 c_26=some p20:=hM30
 rw [D1] at hm29
 refine c_seq (csr (r_mv z (r_bin z z (bI_ge _ 0) (nsq ?_))))
 refine c_if (b:=decide (0≤i_25)) z (fun h31 =>?_) fun h31 =>?_
 rotate_left
 ·have hm32:=iff_ hm29 h31
  refine c_exit (x_exit (ks':=_) z ?_)
  obtain rfl:=si hm32
  exact x_sub (K24 g27) ⟨z,y_⟩ id_
 have hm32:=ift hm29 h31
 refine c_skip (x_seq (c_seq (c_blk (c_reg (r_mv z (r_mv z (r_nc z (r_fa fa237_2 z (r_ld 0 sc234 z z z (r_mv z (r_mv z (r_bin z z (bI_add a0 _) ?_))))))))))))
 refine r_sw (s_w (o_bsl (en:=eI) (sz:=1) (e:=3) (cs:=[vI (i64 (a0+i_25))]) (r:=[i64 (a0+i_25)]) z kr z (by decide) z (fun _=>z))) ?_
 rintro v33 R _ _ ⟨rfl,rfl⟩
 obtain ⟨l35,hl35,hm36⟩:=bs hm32
 refine rl_st (fun _ h=>mv5 h) ?_
 refine r_sw (s_w (o_ap (sz:=1) (bytes:=8) 0 underlying234 z z z z z (by decide) (by decide) (fun _ _ _ h=>by simp at h;subst h;rfl) (fun _=>z) z z z z (Nat.succ_pos _) hl35)) ?_
 rintro v34 R _ _ ⟨rfl,rfl⟩
 refine r_nc z (r_fa fa237_2 z ?_)
 refine rl_st (fun _ h=>mv2 h) ?_
 refine r_u0 (ou_if (one_o 1 z) fun ho0=>o_st sc234 z z z ho0 z z) ?_
 refine r_nil (x_blk (x_seq (c_reg (r_mv z (r_bin z z (bI_sub _ 1) (r_as z (r_nil ?_)))))))
 exact x_lp (i64 (i_25-1),l35,v34) hm36 ⟨z,z,z,y_⟩ (pk 6 [0,3,4,5,1])
def Eb(a0:Int):Option (Option Aq×Int) :=
 if (decide (a0<1)||decide (1000<a0)) then some (none,1) else (DZ 4 (i64 ((i64 (2*a0))+1))).bind fun r2=>some ((some (⟨a0,0,r2.1⟩:Aq)),r2.2)
theorem Eb.ok{G R F}(a0:Int)(r:Option Aq×Int)(hm:Eb a0=some r):CO prog 75 [vI a0] G R (F)
  (Ret fun u R' L'=>∃(p0:Value×Aq.G),u = .tuple #[p0.1,vI r.2]∧R'=R∧L'=rO (Aq.op p0.2) p0.1 r.1::F):=by
 unfold Eb at hm
 refine co_ofN (N:=24) func75 z z ?_
 refine csr (r_as z (r_as z (nssr (r_mv z (r_bin z z (bI_lt a0 1) (r_mv z ?_))))))
 refine r_s (s_gf z z fun g=>o_mv z) ?_
 refine r_s (s_gf z z fun g=>o_bin (evg z g) z (bI_gt a0 1000)) ?_
 refine r_u (o_or z z) (nsq ?_)
 refine c_if (b:=(decide (a0<1)||decide (1000<a0))) z (fun h0 =>?_) fun h0 =>?_
 ·have hm1:=ift hm h0
  refine csr (r_as z (r_as z (r_nil (x_seq (c_ret ?_)))))
  refine ex_st (fun _ h=>st_none (f:=Aq.op default) h) ?_
  obtain rfl:=si hm1
  exact x_r2 z (rv_t z) (rv_t z) le_ ⟨_,z,(nl,default),z,z,z⟩
 have hm1:=iff_ hm h0
 refine c_skip (x_seq (csr (r_mv z (r_bin z z (bI_mul 2 a0) (r_bin z z (bI_add _ 1) ?_)))))
 obtain ⟨r2,hr2,hm6⟩:=bs hm1
 refine r_sw (s_w (o_call ca128 z (DZ.ok 4 _ _ hr2))) ?_
 rintro _ R _ _ ⟨⟨pv4,g5⟩,rfl,rfl,rfl⟩
 refine r_mv z (r_ext z z (r_ext z z (r_as z (r_as z (nsr (r_mv z (r_mv z ?_)))))))
 refine r_u (ou_if (hd_p 0 z) fun hb0=>o_bld [vI a0,vI 0,pv4] z (fun _=>by obtain ⟨_,rfl⟩:=hb0;kernel_rfl)) ?_
 refine r_new (o_bx [vI a0,vI 0,pv4] z z) fun b7 =>?_
 refine r_mv z (r_as z (r_as z (r_nil (x_seq (c_ret ?_)))))
 refine ex_st (fun _ h=>st_some (f:=Aq.op (⟨(pv4,g5)⟩:Aq.G)) (a:=(⟨a0,0,r2.1⟩:Aq)) (st_star_f (A:=Aq.fl b7 (⟨a0,0,r2.1⟩:Aq) (⟨(pv4,g5)⟩:Aq.G)) h)) ?_
 obtain rfl:=si hm6
 exact x_r2 z (rv_t z) (rv_t z) le_ ⟨_,z,(pt b7 0,(⟨(pv4,g5)⟩:Aq.G)),z,z,z⟩
def Ea(a0:Int):Int :=
 (if 4096<(i64 (8*a0)) then 4096 else i64 (8*a0))
theorem Ea.ok{G R F}(a0:Int)(r:Int)(hm:Ea a0=r):CO prog 130 [vI a0] G R (F)
  (Ret fun u R' L'=>u=vI r∧R'=R∧L'=F):=by
 unfold Ea at hm
 refine co_ofN (N:=6) func130 z z ?_
 refine csr (r_as z (nsr (r_mv z (r_bin z z (bI_mul 8 a0) ?_))))
 refine r_u (o_minI z z) (r_as z (r_nil (x_seq (c_ret ?_))))
 subst hm
 exact x_r1 z (rv_t z) le_ ⟨_,z,z,z,z⟩
def DB(a0:Int):Nat→Int→(List (List UInt8))→Option (List (List UInt8))
 | 0,_,_=>none
 | k14+1,s_11,c_12=>if decide (s_11<4) then (mks 1 a0 (0:UInt8)).bind fun l20=>(gi c_12 s_11).bind fun y22=>DB a0 k14 (i64 (s_11+1)) (ls c_12 s_11 l20) else some c_12
def D8(a0:Int)(a1:UInt64):Option (Option An×Int) :=
 if (decide (a0<1)||decide (4096<a0)) then some (none,1) else (mks 1 a0 (false:Bool)).bind fun l3=>Option.bind (DB a0 5 0 [[],[],[],[]]) fun p6=>some ((some (⟨a0,a1,p6,l3,0⟩:An)),0)
theorem D8.ok{G R F}(a0:Int)(a1:UInt64)(r:Option An×Int)(hm:D8 a0 a1=some r):CO prog 129 [vI a0,vW a1] G R (F)
  (Ret fun u R' L'=>∃(p0:Value×An.G),u = .tuple #[p0.1,vI r.2]∧R'=R∧L'=rO (An.op p0.2) p0.1 r.1::F):=by
 unfold D8 at hm
 refine co_ofN (N:=32) func129 z z ?_
 refine csr (r_as z (r_as z (nssr (r_mv z (r_bin z z (bI_lt a0 1) (r_mv z ?_))))))
 refine r_s (s_gf z z fun g=>o_mv z) ?_
 refine r_s (s_gf z z fun g=>o_bin (evg z g) z (bI_gt a0 4096)) ?_
 refine r_u (o_or z z) (nsq ?_)
 refine c_if (b:=(decide (a0<1)||decide (4096<a0))) z (fun h0 =>?_) fun h0 =>?_
 ·have hm1:=ift hm h0
  refine csr (r_as z (r_as z (r_nil (x_seq (c_ret ?_)))))
  refine ex_st (fun _ h=>st_none (f:=An.op default) h) ?_
  obtain rfl:=si hm1
  exact x_r2 z (rv_t z) (rv_t z) le_ ⟨_,z,(nl,default),z,z,z⟩
 have hm1:=iff_ hm h0
 refine c_skip (x_seq (csr (r_mv z (r_mv z (r_mv z ?_)))))
 obtain ⟨l3,hl3,hm4⟩:=bs hm1
 refine r_sw (s_w (o_mk (sz:=1) (bytes:=1) (e:=4) (en:=eB) underlying68 z z z z z z z z z hl3)) ?_
 rintro v2 R _ _ ⟨rfl,rfl⟩
 refine r_u (ou_if (hd_o 0 z) fun hb0=>o_bld [vI a0,vW a1,.slice none 0 0,.slice none 0 0,.slice none 0 0,.slice none 0 0,v2,vI 0] z (fun _=>by obtain ⟨_,_,rfl⟩:=hb0;kernel_rfl)) ?_
 refine r_new (o_bx [vI a0,vW a1,.slice none 0 0,.slice none 0 0,.slice none 0 0,.slice none 0 0,v2,vI 0] z z) fun b5 =>?_
 refine r_as z (nssr (r_mv z (nsq ?_)))
 obtain ⟨p6,hp8,hm9⟩:=bs hm4
 refine cd_cut (fun x ks=>∀(g7:Value×Value×Value×Value),EX x .normal ks [(6,pt b5 0)] R (Bk b5 250 [vI a0,vW a1,g7.1,g7.2.1,g7.2.2.1,g7.2.2.2,v2,vI 0]::OwS true 4 1 eB v2 l3::OwL (OwS false 5 1 eY) [g7.1,g7.2.1,g7.2.2.1,g7.2.2.2] p6::F)) ?_ fun K10 =>?_
 ·intro g7
  refine x_seq (csr (r_mv z (r_as z (r_as z (r_nil (x_seq (c_ret ?_)))))))
  refine ex_st (fun _ h=>mv2 (mv2 (mv1 h))) ?_
  refine ex_st (fun _ h=>st_some (f:=An.op (⟨g7,v2⟩:An.G)) (a:=(⟨a0,a1,p6,l3,0⟩:An)) (st_star_f (A:=An.fl b5 (⟨a0,a1,p6,l3,0⟩:An) (⟨g7,v2⟩:An.G)) h)) ?_
  obtain rfl:=si hm9
  exact x_r2 z (rv_t z) (rv_t z) le_ ⟨_,z,(pt b5 0,(⟨g7,v2⟩:An.G)),z,z,z⟩
 refine c_blk ?_
 refine cd_st (fun _ h=>st_lnil4 (own:=OwS false 5 1 eY) (fun _=>OwS.nil) h) ?_
 refine cd_loopG (M:=fun k14 (s:Int×List (List UInt8)×(Value×Value×Value×Value))=>DB a0 k14 s.1 s.2.1=some p6) (Ef:=fun (s:Int×List (List UInt8)×(Value×Value×Value×Value))=>[(0,vI a0),(6,pt b5 0),(20,vI s.1)]) (Rf:=fun (s:Int×List (List UInt8)×(Value×Value×Value×Value))=>R) (Lf:=fun (s:Int×List (List UInt8)×(Value×Value×Value×Value))=>Bk b5 250 [vI a0,vW a1,s.2.2.1,s.2.2.2.1,s.2.2.2.2.1,s.2.2.2.2.2,v2,vI 0]::OwS true 4 1 eB v2 l3::OwL (OwS false 5 1 eY) [s.2.2.1,s.2.2.2.1,s.2.2.2.2.1,s.2.2.2.2.2] s.2.1::F) 5 (0,[[],[],[],[]],(.slice none 0 0,.slice none 0 0,.slice none 0 0,.slice none 0 0)) hp8 ⟨z,z,z,y_⟩ (pk 3 [1,2,0]) (fun _ h=>by cases h) fun k14 s hM16 =>?_
 obtain ⟨s_11,c_12,g13⟩:=s
 have hm15:DB a0 (k14+1) s_11 c_12=some p6:=hM16
 rw [DB] at hm15
 refine csr (r_bin z z (bI_lt _ 4) (r_nil (x_seq (c_seq ?_))))
 refine c_if (b:=decide (s_11<4)) z (fun h17 =>?_) fun h17 =>?_
 rotate_left
 ·have hm18:=iff_ hm15 h17
  refine c_exit (x_exit (ks':=_) z ?_)
  obtain rfl:=si hm18
  exact x_sub (K10 g13) ⟨z,y_⟩ id_
 have hm18:=ift hm15 h17
 refine c_skip (x_seq (c_seq (c_blk (csr (r_mv z (r_as z (nsq ?_)))))))
 obtain ⟨l20,hl20,hm21⟩:=bs hm18
 obtain ⟨y22,hy22,hm24⟩:=bs hm21
 refine cd_ex (fun w h=>st_peek 2 hy22 z w h) fun u23 hu23 =>?_
 refine c_any mixed (effs:=[3,7]) (V:=[]) ?_
 refine stn mk3_ [0,1,2,4,5] [3] [_,_,_,_,_] (q_mv z z z (q_mv z z z (q_mv z z z (q_u z z (o_nc z) (q_fa z z fa250_2 z qn))))) ?_ (nxt z)
 refine ec (eo_w z (s_w (o_mk (sz:=1) (bytes:=1) (e:=5) (en:=eY) underlying131 z z z z z z z z z hl20)) ?_) en
 rintro v19 R _ _ ⟨rfl,rfl⟩
 refine stage_st (fun _ h=>st_weak h) ?_
 refine stage_st (fun _ h=>mv2 (mv3 h)) ?_
 refine stx [6] mk3_ [0,1,4,5,6] [7] [_] (q_mv z z z (q_mv z z z (q_u z z (o_nc z) (q_fa z z fa250_2 z (q_u z z (o_ixA (sz:=1) underlying248 kr z z (gi_some hu23).1) qn))))) ?_ (nxt z)
 refine ec (eo_w z (s_w (ow_if (one_o 2 z) fun ho=>o_stA4 (A:=[vI a0,vW a1]) (B:=[v2,vI 0]) hy22 hu23 sc131 z z z ho)) ?_) en
 rintro _ R _ _ ⟨p25,p26,p27,p28,rfl,rfl,rfl⟩
 refine stage z z z z mk3_ [] [] z z z qn en ?_
 intro _
 refine ex_sub (E':=[(0,vI a0),(6,pt b5 0),(20,vI s_11)]) ⟨z,z,z,y_⟩ ?_
 refine x_blk (x_seq (c_reg (r_bin z z (bI_add _ 1) (r_mv z (r_nil ?_)))))
 exact x_lp (i64 (s_11+1),ls c_12 s_11 l20,(p25,p26,p27,p28)) hm24 ⟨z,z,z,y_⟩ (pk 3 [0,2,1])
def Ed(a0:Int)(a1:UInt64):Option (Option Ao×Int) :=
 if (decide (a0<1)||decide (1000<a0)) then some (none,1) else (D8 (Ea a0) a1).bind fun r2=>(DZ 3 (i64 (a0+1))).bind fun r7=>some ((some (⟨a0,r2.1,r7.1⟩:Ao)),r7.2)
theorem Ed.ok{G R F}(a0:Int)(a1:UInt64)(r:Option Ao×Int)(hm:Ed a0 a1=some r):CO prog 76 [vI a0,vW a1] G R (F)
  (Ret fun u R' L'=>∃(p0:Value×Ao.G),u = .tuple #[p0.1,vI r.2]∧R'=R∧L'=rO (Ao.op p0.2) p0.1 r.1::F):=by
 unfold Ed at hm
 refine co_ofN (N:=35) func76 z z ?_
 refine csr (r_as z (r_as z (nssr (r_mv z (r_bin z z (bI_lt a0 1) (r_mv z ?_))))))
 refine r_s (s_gf z z fun g=>o_mv z) ?_
 refine r_s (s_gf z z fun g=>o_bin (evg z g) z (bI_gt a0 1000)) ?_
 refine r_u (o_or z z) (nsq ?_)
 refine c_if (b:=(decide (a0<1)||decide (1000<a0))) z (fun h0 =>?_) fun h0 =>?_
 ·have hm1:=ift hm h0
  refine csr (r_as z (r_as z (r_nil (x_seq (c_ret ?_)))))
  refine ex_st (fun _ h=>st_none (f:=Ao.op default) h) ?_
  obtain rfl:=si hm1
  exact x_r2 z (rv_t z) (rv_t z) le_ ⟨_,z,(nl,default),z,z,z⟩
 have hm1:=iff_ hm h0
 refine c_skip (x_seq (csr (r_mv z ?_)))
 refine r_u (o_callq ca130 z (Ea.ok a0 _ z)) (r_mv z ?_)
 obtain ⟨r2,hr2,hm6⟩:=bs hm1
 refine r_sw (s_w (o_call ca129 z (D8.ok _ a1 _ hr2))) ?_
 rintro _ R _ _ ⟨⟨pv4,g5⟩,rfl,rfl,rfl⟩
 refine r_mv z (r_ext z z (r_ext z z (r_as z (r_as z (nsr (r_mv z (r_bin z z (bI_add a0 1) ?_)))))))
 obtain ⟨r7,hr7,hm11⟩:=bs hm6
 refine r_sw (s_w (o_call ca128 z (DZ.ok 3 _ _ hr7))) ?_
 rintro _ R _ _ ⟨⟨pv9,g10⟩,rfl,rfl,rfl⟩
 refine r_mv z (r_ext z z (r_ext z z (r_as z (r_as z (nsr (r_mv z (r_mv z (r_mv z ?_))))))))
 refine r_u (ou_if (hd_p 1 z) fun hb0=>ou_if (hd_p 0 z) fun hb1=>o_bld [vI a0,pv4,pv9] z (fun _=>by obtain ⟨_,rfl⟩:=hb0;obtain ⟨_,rfl⟩:=hb1;kernel_rfl)) ?_
 refine r_new (o_bx [vI a0,pv4,pv9] z z) fun b12 =>?_
 refine r_mv z (r_as z (r_as z (r_nil (x_seq (c_ret ?_)))))
 refine ex_st (fun _ h=>mv2 (mv2 (mv1 h))) ?_
 refine ex_st (fun _ h=>st_some (f:=Ao.op (⟨(pv4,g5),(pv9,g10)⟩:Ao.G)) (a:=(⟨a0,r2.1,r7.1⟩:Ao)) (st_star_f (A:=Ao.fl b12 (⟨a0,r2.1,r7.1⟩:Ao) (⟨(pv4,g5),(pv9,g10)⟩:Ao.G)) h)) ?_
 obtain rfl:=si hm11
 exact x_r2 z (rv_t z) (rv_t z) le_ ⟨_,z,(pt b12 0,(⟨(pv4,g5),(pv9,g10)⟩:Ao.G)),z,z,z⟩
def Dm(a0:Int)(a1:Int)(a2:UInt64):Option (Option Ah×Int) :=
 Option.bind (if (a0==1) then (Eb a1).bind fun r15=>some (r15.2,r15.1,none) else Option.bind (if (a0==2) then (Ed a1 a2).bind fun r29=>some (r29.2,r29.1) else some (1,none)) fun p20=>some (p20.1,none,p20.2)) fun p1=>if (p1.1 != 0) then some (none,p1.1) else some ((some (⟨a0,p1.2.1,p1.2.2⟩:Ah)),0)
theorem Dm.ok{G R F}(a0:Int)(a1:Int)(a2:UInt64)(r:Option Ah×Int)(hm:Dm a0 a1 a2=some r):CO prog 41 [vI a0,vI a1,vW a2] G R (F)
  (Ret fun u R' L'=>∃(p0:Value×Ah.G),u = .tuple #[p0.1,vI r.2]∧R'=R∧L'=rO (Ah.op p0.2) p0.1 r.1::F):=by
 unfold Dm at hm
 refine co_ofN (N:=39) func41 z z ?_
 refine csr (r_as z (r_as z (nsr (r_mv z ?_))))
 refine r_u (o_bld [vI a0,nl,nl] z kr) ?_
 refine r_new (o_bx [vI a0,nl,nl] z z) fun b0 =>?_
 refine r_as z (r_as z (nssr (r_mv z (r_nil (x_seq (c_blk (csr (r_bin z z (bI_eq a0 1) (r_as z (nsq ?_))))))))))
 obtain ⟨p1,hp8,hm9⟩:=bs hm
 refine cd_cut (fun x ks=>∀(pv2:Value×Aq.G),∀(pv5:Value×Ao.G),EX x .normal ks [(8,pt b0 0),(9,vI p1.1)] R (Bk b0 144 [vI a0,pv2.1,pv5.1]::rO (Aq.op pv2.2) pv2.1 p1.2.1::rO (Ao.op pv5.2) pv5.1 p1.2.2::F)) ?_ fun K10 =>?_
 ·intro pv2 pv5
  obtain ⟨pv3,g4⟩:=pv2
  obtain ⟨pv6,g7⟩:=pv5
  refine x_blk (x_seq (c_seq (csr (r_mv z (r_bin z z (bI_ne _ 0) (nsq ?_))))))
  refine c_if (b:=(p1.1 != 0)) z (fun h11 =>?_) fun h11 =>?_
  ·have hm12:=ift hm9 h11
   refine csr (r_mv z (r_as z (r_as z (r_nil (x_seq (c_ret ?_))))))
   refine ex_st (fun _ h=>st_none (f:=Ah.op default) h) ?_
   obtain rfl:=si hm12
   refine ex_st (pk 4 [0]) ?_
   exact x_r2 z (rv_t z) (rv_t z) le_ ⟨_,z,(nl,default),z,z,z⟩
  have hm12:=iff_ hm9 h11
  refine c_skip (x_seq (csr (r_mv z (r_as z (r_as z (r_nil (x_seq (c_ret ?_))))))))
  refine ex_st (fun _ h=>st_some (f:=Ah.op (⟨(pv3,g4),(pv6,g7)⟩:Ah.G)) (a:=(⟨a0,p1.2.1,p1.2.2⟩:Ah)) (st_star_f (A:=Ah.fl b0 (⟨a0,p1.2.1,p1.2.2⟩:Ah) (⟨(pv3,g4),(pv6,g7)⟩:Ah.G)) h)) ?_
  obtain rfl:=si hm12
  exact x_r2 z (rv_t z) (rv_t z) le_ ⟨_,z,(pt b0 0,(⟨(pv3,g4),(pv6,g7)⟩:Ah.G)),z,z,z⟩
 refine c_if (b:=(a0==1)) z (fun h13 =>?_) fun h13 =>?_
 ·have hm14:=ift hp8 h13
  refine c_reg (r_mv z (r_mv z ?_))
  obtain ⟨r15,hr15,hm19⟩:=bs hm14
  refine r_sw (s_w (o_call ca75 z (Eb.ok a1 _ hr15))) ?_
  rintro _ R _ _ ⟨⟨pv17,g18⟩,rfl,rfl,rfl⟩
  refine r_mv z (r_ext z z (r_ext z z (r_nc z (r_fa fa144_1 z ?_))))
  refine rl_st (fun _ h=>mv1 h) ?_
  refine r_u0 (ou_if (one_p 1 z) fun ho0=>o_st sc141 z z z ho0 z z) ?_
  refine r_as z (r_nil ?_)
  refine ex_st (fun _ h=>st_none (f:=Ao.op default) h) ?_
  obtain rfl:=si hm19
  exact x_sub (K10 (pv17,g18) (nl,default)) ⟨z,z,y_⟩ (pk 3 [1,2,0])
 have hm14:=iff_ hp8 h13
 refine csr (r_bin z z (bI_eq a0 2) (r_as z (nsq ?_)))
 obtain ⟨p20,hp24,hm25⟩:=bs hm14
 refine cd_cut (fun x ks=>∀(pv21:Value×Ao.G),EX x .normal ks [(8,pt b0 0),(9,vI p20.1)] R (Bk b0 144 [vI a0,nl,pv21.1]::rO (Ao.op pv21.2) pv21.1 p20.2::F)) ?_ fun K26 =>?_
 ·intro pv21
  obtain ⟨pv22,g23⟩:=pv21
  refine ex_st (fun _ h=>st_none (f:=Aq.op default) h) ?_
  obtain rfl:=si hm25
  exact x_sub (K10 (nl,default) (pv22,g23)) ⟨z,z,y_⟩ (pk 3 [1,0,2])
 refine c_if (b:=(a0==2)) z (fun h27 =>?_) fun h27 =>?_
 rotate_left
 ·have hm28:=iff_ hp24 h27
  refine c_skip ?_
  refine ex_st (fun _ h=>st_none (f:=Ao.op default) h) ?_
  obtain rfl:=si hm28
  exact x_sub (K26 (nl,default)) ⟨z,z,y_⟩ (pk 2 [1,0])
 have hm28:=ift hp24 h27
 refine c_reg (r_mv z (r_mv z (r_mv z ?_)))
 obtain ⟨r29,hr29,hm33⟩:=bs hm28
 refine r_sw (s_w (o_call ca76 z (Ed.ok a1 a2 _ hr29))) ?_
 rintro _ R _ _ ⟨⟨pv31,g32⟩,rfl,rfl,rfl⟩
 refine r_mv z (r_ext z z (r_ext z z (r_nc z (r_fa fa144_2 z ?_))))
 refine rl_st (fun _ h=>mv1 h) ?_
 refine r_u0 (ou_if (one_p 1 z) fun ho0=>o_st sc142 z z z ho0 z z) ?_
 refine r_as z (r_nil ?_)
 obtain rfl:=si hm33
 exact x_sub (K26 (pv31,g32)) ⟨z,z,y_⟩ id_
def Ee : Option Am :=
 (some (⟨[],0⟩:Am))
theorem Ee.ok{G R F}(r:Option Am)(hm:Ee=r):CO prog 42 [] G R (F)
  (Ret fun u R' L'=>∃(p0:Value×Am.G),u=p0.1∧R'=R∧L'=rO (Am.op p0.2) p0.1 r::F):=by
 unfold Ee at hm
 refine co_ofN (N:=4) func42 z z ?_
 refine csr (r_as z (nsr ?_))
 refine r_sw (s_w (o_mm (kv:=vS) (vv:=Ai.v))) ?_
 rintro v0 R _ _ ⟨rfl,rfl⟩
 refine r_u (ou_if (hd_m 0 z) fun hb0=>o_bld [v0,vI 0] z (fun _=>by obtain ⟨_,rfl⟩:=hb0;kernel_rfl)) ?_
 refine r_new (o_bx [v0,vI 0] z z) fun b1 =>?_
 refine r_as z (r_nil (x_seq (c_ret ?_)))
 refine ex_st (fun _ h=>st_some (f:=Am.op (⟨v0⟩:Am.G)) (a:=(⟨[],0⟩:Am)) (st_star_f (A:=Am.fl b1 (⟨[],0⟩:Am) (⟨v0⟩:Am.G)) h)) ?_
 subst hm
 exact x_r1 z (rv_t z) le_ ⟨_,z,(pt b1 0,(⟨v0⟩:Am.G)),z,z,z⟩
def DR(a0:Au):Option (Option Ak×Int) :=
 if !(DU a0) then some (none,1) else (Dm a0.Policy a0.Entries a0.Seed).bind fun r3=>lt (Ee) fun r8=>some ((some (⟨a0,r8,r3.1,[],0,0,0,(⟨0,0⟩:Cb)⟩:Ak)),r3.2)
theorem DR.ok{G R F}(a0:Au)(r:Option Ak×Int)(hm:DR a0=some r):CO prog 19 [.agg (Au.c a0).toArray] G R (F)
  (Ret fun u R' L'=>∃(p0:Value×Ak.G),u = .tuple #[p0.1,vI r.2]∧R'=R∧L'=rO (Ak.op p0.2) p0.1 r.1::F):=by
 unfold DR at hm
 refine co_ofN (N:=26) func19 z z ?_
 refine csr ?_
 refine r_new (o_bx (Au.c a0) z z) fun b0 =>?_
 refine r_as z (r_as z (nssr ?_))
 refine r_u (o_ldn 0 (Au.c a0) ag24 z z z z) ?_
 refine r_u (o_callq ca29 z (DU.ok a0 _ z)) ?_
 refine r_u (o_not z) (nsq ?_)
 refine c_if (b := !(DU a0)) z (fun h1 =>?_) fun h1 =>?_
 ·have hm2:=ift hm h1
  refine csr (r_as z (r_as z (r_nil (x_seq (c_ret ?_)))))
  refine ex_st (fun _ h=>st_none (f:=Ak.op default) h) ?_
  obtain rfl:=si hm2
  refine ex_st (pk 2 [0]) ?_
  exact x_r2 z (rv_t z) (rv_t z) le_ ⟨_,z,(nl,default),z,z,z⟩
 have hm2:=iff_ hm h1
 refine c_skip (x_seq (csr (r_fa fa24_0 z (r_ld 0 sc3 z z z (r_fa fa24_1 z (r_ld 0 sc3 z z z (r_fa fa24_3 z (r_ld 0 sc22 z z z ?_))))))))
 obtain ⟨r3,hr3,hm7⟩:=bs hm2
 refine r_sw (s_w (o_call ca41 z (Dm.ok _ _ _ _ hr3))) ?_
 rintro _ R _ _ ⟨⟨pv5,g6⟩,rfl,rfl,rfl⟩
 refine r_mv z (r_ext z z (r_ext z z (r_as z (r_as z (r_nil (x_seq (c_seq ?_)))))))
 obtain ⟨r8,hr8,hm12⟩:=ltx hm7
 refine c_any mixed (effs:=[1,3,5]) (V:=[]) ?_
 refine stn mk0_ [0,2,6] [1,3] [_,_,_] (q_u z z (o_ldn 1 (Au.c a0) ag24 z z z z) (q_mv z z z (q_mv z z z qn))) ?_ (nxt z)
 refine ec (eo_w z (s_w (o_call ca42 z (Ee.ok _ hr8))) ?_) (ec (eo_w z (s_w (o_mm (kv:=vW) (vv:=Ar.v))) ?_) en)
 ·rintro pv10 R _ _ ⟨⟨_,g11⟩,rfl,rfl,rfl⟩
  refine stage z z z z mk0_ [0,2,6] [3] z z z (q_u z z (o_ldn 2 (Au.c a0) ag24 z z z z) (q_mv z z z (q_mv z z z qn))) ?_ (nxt z)
  refine ec (eo_w z (s_w (o_mm (kv:=vW) (vv:=Ar.v))) ?_) en
  rintro v13 R _ _ ⟨rfl,rfl⟩
  refine stx [4] mk0_ [0,2,4,6] [5] [_] (q_u z z (o_ldn 3 (Au.c a0) ag24 z z z z) (q_mv z z z (q_u z z (ou_if (hd_p 1 z) fun hb0=>ou_if (hd_p 2 z) fun hb1=>ou_if (hd_m 0 z) fun hb2=>o_bld [vI a0.Policy,vI a0.Entries,vI a0.Bytes,vW a0.Seed,pv10,pv5,v13,vW 0,vW 0,vW 0,vI 0,vI 0] z (fun _=>by obtain ⟨_,rfl⟩:=hb0;obtain ⟨_,rfl⟩:=hb1;obtain ⟨_,rfl⟩:=hb2;kernel_rfl)) (q_mv z z z qn)))) ?_ (nxt z)
  refine ec (eo_n z (s_w (o_bx [vI a0.Policy,vI a0.Entries,vI a0.Bytes,vW a0.Seed,pv10,pv5,v13,vW 0,vW 0,vW 0,vI 0,vI 0] z z)) fun b14 =>?_) en
  refine stx [7,8] mk0_ [6,7,8] [] [_,_] (q_mv z z z (q_u z z (o_as z) (q_u z z (o_as z) qn))) en ?_
  intro _
  refine ex_sub (E':=[(2,pt b14 0),(3,vI r3.2)]) ⟨z,z,y_⟩ ?_
  refine x_seq (c_ret ?_)
  refine ex_st (fun _ h=>mv3 (mv3 (mv3 (mv1 h)))) ?_
  refine ex_st (fun _ h=>st_some (f:=Ak.op (⟨(pv10,g11),(pv5,g6),v13⟩:Ak.G)) (a:=(⟨a0,r8,r3.1,[],0,0,0,(⟨0,0⟩:Cb)⟩:Ak)) (st_star_f (A:=Ak.fl b14 (⟨a0,r8,r3.1,[],0,0,0,(⟨0,0⟩:Cb)⟩:Ak) (⟨(pv10,g11),(pv5,g6),v13⟩:Ak.G)) h)) ?_
  obtain rfl:=si hm12
  refine ex_st (pk 2 [0]) ?_
  exact x_r2 z (rv_t z) (rv_t z) le_ ⟨_,z,(pt b14 0,(⟨(pv10,g11),(pv5,g6),v13⟩:Ak.G)),z,z,z⟩
 rintro v13 R _ _ ⟨rfl,rfl⟩
 refine stage z z z z mk0_ [0,2,6] [1] z z z (q_u z z (o_ldn 2 (Au.c a0) ag24 z z z z) (q_mv z z z (q_mv z z z qn))) ?_ (nxt z)
 refine ec (eo_w z (s_w (o_call ca42 z (Ee.ok _ hr8))) ?_) en
 rintro pv10 R _ _ ⟨⟨_,g11⟩,rfl,rfl,rfl⟩
 refine stx [4] mk0_ [0,2,4,6] [5] [_] (q_u z z (o_ldn 3 (Au.c a0) ag24 z z z z) (q_mv z z z (q_u z z (ou_if (hd_p 0 z) fun hb0=>ou_if (hd_p 2 z) fun hb1=>ou_if (hd_m 1 z) fun hb2=>o_bld [vI a0.Policy,vI a0.Entries,vI a0.Bytes,vW a0.Seed,pv10,pv5,v13,vW 0,vW 0,vW 0,vI 0,vI 0] z (fun _=>by obtain ⟨_,rfl⟩:=hb0;obtain ⟨_,rfl⟩:=hb1;obtain ⟨_,rfl⟩:=hb2;kernel_rfl)) (q_mv z z z qn)))) ?_ (nxt z)
 refine ec (eo_n z (s_w (o_bx [vI a0.Policy,vI a0.Entries,vI a0.Bytes,vW a0.Seed,pv10,pv5,v13,vW 0,vW 0,vW 0,vI 0,vI 0] z z)) fun b14 =>?_) en
 refine stx [7,8] mk0_ [6,7,8] [] [_,_] (q_mv z z z (q_u z z (o_as z) (q_u z z (o_as z) qn))) en ?_
 intro _
 refine ex_sub (E':=[(2,pt b14 0),(3,vI r3.2)]) ⟨z,z,y_⟩ ?_
 refine x_seq (c_ret ?_)
 refine ex_st (fun _ h=>mv3 (mv3 (mv3 (mv2 h)))) ?_
 refine ex_st (fun _ h=>st_some (f:=Ak.op (⟨(pv10,g11),(pv5,g6),v13⟩:Ak.G)) (a:=(⟨a0,r8,r3.1,[],0,0,0,(⟨0,0⟩:Cb)⟩:Ak)) (st_star_f (A:=Ak.fl b14 (⟨a0,r8,r3.1,[],0,0,0,(⟨0,0⟩:Cb)⟩:Ak) (⟨(pv10,g11),(pv5,g6),v13⟩:Ak.G)) h)) ?_
 obtain rfl:=si hm12
 refine ex_st (pk 2 [0]) ?_
 exact x_r2 z (rv_t z) (rv_t z) le_ ⟨_,z,(pt b14 0,(⟨(pv10,g11),(pv5,g6),v13⟩:Ak.G)),z,z,z⟩
def BC(a0:Int)(a1:Int):Option Ab :=
 (mks 24 a0 ([]:List Str)).bind fun l2=>some (⟨l2,a1⟩:Ab)
theorem BC.ok{G R F}(a0:Int)(a1:Int)(r:Ab)(hm:BC a0 a1=some r):CO prog 131 [vI a0,vI a1] G R (F)
  (Ret fun u R' L'=>∃(p0:Ab.G),u = .agg [p0.L.1,vI r.Places].toArray∧R'=R∧L'=OwS true 98 1 eV p0.L.1 p0.L.2::OwL (OwS true 9 1 eS) p0.L.2 r.L::F):=by
 unfold BC at hm
 refine co_ofN (N:=9) func131 z z ?_
 refine csr ?_
 refine r_new (o_al ze64) fun b0 =>?_
 refine nsr (r_mv z ?_)
 obtain ⟨l2,hl2,hm4⟩:=bs hm
 refine r_sw (s_w (o_mkN (bytes:=24) (e:=98) (ap2:=true) (T2:=9) (sz:=1) (en:=eS) underlying62 z z z z z z z hl2)) ?_
 rintro v1 R _ _ ⟨hs3,rfl,rfl⟩
 refine r_mv z ?_
 refine r_u (ou_if (hd_o 0 z) fun hb0=>o_bld [v1,vI a1] z (fun _=>by obtain ⟨_,_,rfl⟩:=hb0;kernel_rfl)) ?_
 refine rl_st (fun _ h=>mv2 h) ?_
 refine r_u0 (ou_if (one_o 1 z) fun ho0=>o_stn ag64 z z z (a_ ho0 (a_ z al_n)) z z z) ?_
 refine r_nil (x_seq (c_ret ?_))
 obtain rfl:=si hm4
 exact x_d1 z (rv_n 0 [v1,vI a1] ag64 z z z z) (pk 3 [1,2]) le_ ⟨_,z,(⟨(v1,hs3)⟩:Ab.G),z,z,z⟩
def DE(a0:Int):Option Aa :=
 (BC 4 (i64 ((i64 (2*a0))+1))).bind fun r1=>some (⟨a0,0,r1⟩:Aa)
theorem DE.ok{G R F}(a0:Int)(r:Aa)(hm:DE a0=some r):CO prog 77 [vI a0] G R (F)
  (Ret fun u R' L'=>∃(p0:Aa.G),u = .agg (Aa.k r p0).toArray∧R'=R∧L'=OwS true 98 1 eV p0.R.L.1 p0.R.L.2::OwL (OwS true 9 1 eS) p0.R.L.2 r.R.L::F):=by
 unfold DE at hm
 refine co_ofN (N:=9) func77 z z ?_
 refine csr ?_
 refine r_new (o_al ze66) fun b0 =>?_
 refine nsr (r_mv z (r_mv z (r_bin z z (bI_mul 2 a0) (r_bin z z (bI_add _ 1) ?_))))
 obtain ⟨r1,hr1,hm4⟩:=bs hm
 refine r_sw (s_w (o_call ca131 z (BC.ok 4 _ _ hr1))) ?_
 rintro _ R _ _ ⟨v2,rfl,rfl,rfl⟩
 refine r_u (ou_if (hd_o 0 z) fun hb0=>o_bld [vI a0,vI 0,v2.L.1,vI r1.Places] z (fun _=>by (try dsimp only [Ac.k,Af.k,Ak.k,Ae.k,An.k,Ad.k,Aa.k,Aj.k]);obtain ⟨_,_,he0⟩:=hb0;rw [he0];kernel_rfl)) ?_
 refine rl_st (fun _ h=>mv2 h) ?_
 refine r_u0 (ou_if (one_o 1 z) fun ho0=>o_stn ag66 z z z (a_ z (a_ z (a_ ho0 (a_ z al_n)))) z z z) ?_
 refine r_nil (x_seq (c_ret ?_))
 obtain rfl:=si hm4
 exact x_d1 z (rv_n 0 [vI a0,vI 0,v2.L.1,vI r1.Places] ag66 z z z z) (pk 3 [1,2]) le_ ⟨_,z,(⟨v2⟩:Aa.G),z,z,z⟩
def Dx(a0:Int):Int :=
 if decide (512<a0) then 4096 else i64 (8*a0)
theorem Dx.ok{G R F}(a0:Int)(r:Int)(hm:Dx a0=r):CO prog 133 [vI a0] G R (F)
  (Ret fun u R' L'=>u=vI r∧R'=R∧L'=F):=by
 unfold Dx at hm
 refine co_ofN (N:=7) func133 z z ?_
 refine csr (r_as z (nssr (r_mv z (r_bin z z (bI_gt a0 512) (nsq ?_)))))
 refine c_if (b:=decide (512<a0)) z (fun h0 =>?_) fun h0 =>?_
 ·have hm1:=ift hm h0
  refine csr (r_as z (r_nil (x_seq (c_ret ?_))))
  subst hm1
  exact x_r1 z (rv_t z) le_ ⟨_,z,z,z,z⟩
 have hm1:=iff_ hm h0
 refine c_skip (x_seq (csr (r_mv z (r_bin z z (bI_mul 8 a0) (r_as z (r_nil (x_seq (c_ret ?_))))))))
 subst hm1
 exact x_r1 z (rv_t z) le_ ⟨_,z,z,z,z⟩
def B6(a0:Int):Nat→Int→(List (List Int))→Option (List (List Int))
 | 0,_,_=>none
 | k13+1,i_10,c_11=>if decide (i_10<4) then (mks 8 a0 (0:Int)).bind fun l19=>(apd 24 c_11 [l19]).bind fun l23=>B6 a0 k13 (i64 (i_10+1)) l23 else some c_11
def Cu(a0:Int)(a1:UInt64):Option Ad :=
 (mks 1 a0 (false:Bool)).bind fun l2=>Option.bind (B6 a0 5 0 []) fun p5=>some (⟨a0,a1,p5,l2,0⟩:Ad)
theorem Cu.ok{G R F}(a0:Int)(a1:UInt64)(r:Ad)(hm:Cu a0 a1=some r):CO prog 132 [vI a0,vW a1] G R (F)
  (Ret fun u R' L'=>∃(p0:Ad.G),u = .agg (Ad.k r p0).toArray∧R'=R∧L'=OwS true 234 1 eV p0.Rows.1 p0.Rows.2::OwL (OwS true 3 1 eI) p0.Rows.2 r.Rows::OwS true 4 1 eB p0.Door r.Door::F):=by
 unfold Cu at hm
 refine co_ofN (N:=24) func132 z z ?_
 refine csr ?_
 refine r_new (o_al ze70) fun b0 =>?_
 refine nsr (r_mv z (r_mv z (r_mv z ?_)))
 obtain ⟨l2,hl2,hm3⟩:=bs hm
 refine r_sw (s_w (o_mk (sz:=1) (bytes:=1) (e:=4) (en:=eB) underlying68 z z z z z z z z z hl2)) ?_
 rintro v1 R _ _ ⟨rfl,rfl⟩
 refine r_u (ou_if (hd_o 0 z) fun hb0=>o_bld [vI a0,vW a1,.slice none 0 0,v1,vI 0] z (fun _=>by obtain ⟨_,_,rfl⟩:=hb0;kernel_rfl)) ?_
 refine r_new (o_al ze70) fun b4 =>?_
 refine r_u0 (ou_if (one_o 1 z) fun ho0=>o_stn ag70 z z z (a_ z (a_ z (a_ z (a_ ho0 (a_ z al_n))))) z z z) ?_
 refine nssr (r_as z (nsq ?_))
 obtain ⟨p5,hp7,hm8⟩:=bs hm3
 refine cd_cut (fun x ks=>∀(g6:Value×List Value),EX x .normal ks [(4,pt b0 0),(5,pt b4 0)] R (Bk b4 70 [vI a0,vW a1,g6.1,v1,vI 0]::Bk b0 70 [vI 0,vW 0,.slice none 0 0,.slice none 0 0,vI 0]::OwS true 4 1 eB v1 l2::OwS true 234 1 eV g6.1 g6.2::OwL (OwS true 3 1 eI) g6.2 p5::F)) ?_ fun K9 =>?_
 ·intro g6
  refine x_seq (csr ?_)
  refine r_u (o_ldn 0 [vI a0,vW a1,g6.1,v1,vI 0] ag70 z z z z) ?_
  refine rl_st (fun _ h=>mv3 (mv3 (mv2 h))) ?_
  refine r_u0 (ou_if (one_o 1 z) fun ho0=>ou_if (one_o 2 z) fun ho1=>o_stn ag70 z z z (a_ z (a_ z (a_ ho0 (a_ ho1 (a_ z al_n))))) z z z) ?_
  refine r_nil (x_seq (c_ret ?_))
  obtain rfl:=si hm8
  exact x_d1 z (rv_n 0 [vI a0,vW a1,g6.1,v1,vI 0] ag70 z z z z) (pk 5 [1,4,2]) le_ ⟨_,z,(⟨g6,v1⟩:Ad.G),z,z,z⟩
 refine c_blk ?_
 refine cd_st (fun _ h=>st_nil (ap:=true) (T:=234) (sz:=1) (en:=eV) (st_lnil (own:=OwS true 3 1 eI) h)) ?_
 refine cd_loopG (M:=fun k13 (s:Int×List (List Int)×(Value×List Value))=>B6 a0 k13 s.1 s.2.1=some p5) (Ef:=fun (s:Int×List (List Int)×(Value×List Value))=>[(0,vI a0),(4,pt b0 0),(5,pt b4 0),(6,vI s.1)]) (Rf:=fun (s:Int×List (List Int)×(Value×List Value))=>R) (Lf:=fun (s:Int×List (List Int)×(Value×List Value))=>Bk b4 70 [vI a0,vW a1,s.2.2.1,v1,vI 0]::Bk b0 70 [vI 0,vW 0,.slice none 0 0,.slice none 0 0,vI 0]::OwS true 4 1 eB v1 l2::OwS true 234 1 eV s.2.2.1 s.2.2.2::OwL (OwS true 3 1 eI) s.2.2.2 s.2.1::F) 5 (0,[],(.slice none 0 0,[])) hp7 ⟨z,z,z,z,y_⟩ (pk 5 [2,4,3,0,1]) (fun _ h=>by cases h) fun k13 s hM15 =>?_
 obtain ⟨i_10,c_11,g12⟩:=s
 have hm14:B6 a0 (k13+1) i_10 c_11=some p5:=hM15
 rw [B6] at hm14
 refine c_seq (csr (r_mv z (r_bin z z (bI_lt _ 4) (nsq ?_))))
 refine c_if (b:=decide (i_10<4)) z (fun h16 =>?_) fun h16 =>?_
 rotate_left
 ·have hm17:=iff_ hm14 h16
  refine c_exit (x_exit (ks':=_) z ?_)
  obtain rfl:=si hm17
  exact x_sub (K9 g12) ⟨z,z,y_⟩ id_
 have hm17:=ift hm14 h16
 refine c_skip (x_seq (c_seq (c_blk ?_)))
 obtain ⟨l19,hl19,hm20⟩:=bs hm17
 obtain ⟨l23,hl23,hm25⟩:=bs hm20
 refine c_any mixed (effs:=[3,4,5,7]) (V:=[]) ?_
 refine stn mk24_ [0,1,2] [3] [_,_,_] (q_fa z z fa70_2 z (q_ld z z 0 sc67 z z z (q_mv z z z qn))) ?_ (nxt z)
 refine ec (eo_w z (s_w (o_mk (sz:=1) (bytes:=8) (e:=3) (en:=eI) underlying234 z z z z z z z z z hl19)) ?_) en
 rintro v18 R _ _ ⟨rfl,rfl⟩
 refine stage z z z z mk24_ [0,1] [4] z z z (q_fa z z fa70_2 z (q_ld z z 1 sc67 z z z qn)) ?_ (nxt z)
 refine ec (eo_w z (s_w (ow_if (hd_o 0 z) fun hb=>o_bsl (en:=eV) (sz:=1) (e:=234) (cs:=[v18]) (r:=[v18]) z (fun _=>by obtain ⟨_,_,rfl⟩:=hb;kernel_rfl) z (by decide) z (fun _=>z))) ?_) en
 rintro v21 R _ _ ⟨rfl,rfl⟩
 refine stage_st (fun _ h=>mv1 h) ?_
 refine stage_st (fun _ h=>st_l1 h) ?_
 refine stage_st (fun _ h=>mv6 (mv6 (mv1 h))) ?_
 refine stage z z z z mk24_ [0,1] [5] z z z (q_fa z z fa70_2 z (q_ld z z 4 sc67 z z z qn)) ?_ (nxt z)
 refine ec (eo_w z (s_w (o_apN (bytes:=24) underlying67 z z z z z z z z z (Nat.succ_pos _) hl23)) ?_) en
 rintro v22 R _ _ ⟨hs24,rfl,rfl⟩
 refine stage_st (fun _ h=>mv2 h) ?_
 refine stn mk24_ [6] [7] [_] (q_fa z z fa70_2 z qn) ?_ (nxt z)
 refine ec (eo_u z (s_u (ou_if (one_o 1 z) fun ho0=>o_st sc67 z z z ho0 z z)) le_ ?_) en
 refine stage z z z z mk24_ [] [] z z z qn en ?_
 intro _
 refine ex_sub (E':=[(0,vI a0),(4,pt b0 0),(5,pt b4 0),(6,vI i_10)]) ⟨z,z,z,z,y_⟩ ?_
 refine x_blk (x_seq (c_reg (r_mv z (r_bin z z (bI_add _ 1) (r_as z (r_nil ?_))))))
 exact x_lp (i64 (i_10+1),l23,(v22,hs24)) hm25 ⟨z,z,z,z,y_⟩ (pk 5 [0,3,4,1,2])
def DF(a0:Int)(a1:UInt64):Option Ae :=
 (Cu (Dx a0) a1).bind fun r1=>(BC 3 (i64 (a0+1))).bind fun r6=>some (⟨a0,r1,r6⟩:Ae)
theorem DF.ok{G R F}(a0:Int)(a1:UInt64)(r:Ae)(hm:DF a0 a1=some r):CO prog 78 [vI a0,vW a1] G R (F)
  (Ret fun u R' L'=>∃(p0:Ae.G),u = .agg (Ae.k r p0).toArray∧R'=R∧L'=OwS true 234 1 eV p0.S.Rows.1 p0.S.Rows.2::OwL (OwS true 3 1 eI) p0.S.Rows.2 r.S.Rows::OwS true 4 1 eB p0.S.Door r.S.Door::OwS true 98 1 eV p0.R.L.1 p0.R.L.2::OwL (OwS true 9 1 eS) p0.R.L.2 r.R.L::F):=by
 unfold DF at hm
 refine co_ofN (N:=14) func78 z z ?_
 refine csr ?_
 refine r_new (o_al ze72) fun b0 =>?_
 refine nsr (r_mv z (r_mv z ?_))
 refine r_u (o_callq ca133 z (Dx.ok a0 _ z)) (r_mv z ?_)
 obtain ⟨r1,hr1,hm5⟩:=bs hm
 refine r_sw (s_w (o_call ca132 z (Cu.ok _ a1 _ hr1))) ?_
 rintro _ R _ _ ⟨v2,rfl,rfl,rfl⟩
 refine r_mv z (r_bin z z (bI_add a0 1) ?_)
 obtain ⟨r6,hr6,hm9⟩:=bs hm5
 refine r_sw (s_w (o_call ca131 z (BC.ok 3 _ _ hr6))) ?_
 rintro _ R _ _ ⟨v7,rfl,rfl,rfl⟩
 refine r_u (ou_if (hd_o 2 z) fun hb0=>ou_if (hd_o 4 z) fun hb1=>ou_if (hd_o 0 z) fun hb2=>o_bld [vI a0,vI r1.Wide,vW r1.Seed,v2.Rows.1,v2.Door,vI r1.Added,v7.L.1,vI r6.Places] z (fun _=>by (try dsimp only [Ac.k,Af.k,Ak.k,Ae.k,An.k,Ad.k,Aa.k,Aj.k]);obtain ⟨_,_,he0⟩:=hb0;rw [he0];obtain ⟨_,_,he1⟩:=hb1;rw [he1];obtain ⟨_,_,he2⟩:=hb2;rw [he2];kernel_rfl)) ?_
 refine rl_st (fun _ h=>mv5 (mv3 (mv4 h))) ?_
 refine r_u0 (ou_if (one_o 1 z) fun ho0=>ou_if (one_o 2 z) fun ho1=>ou_if (one_o 3 z) fun ho2=>o_stn ag72 z z z (a_ z (a_ z (a_ z (a_ ho0 (a_ ho1 (a_ z (a_ ho2 (a_ z al_n)))))))) z z z) ?_
 refine r_nil (x_seq (c_ret ?_))
 obtain rfl:=si hm9
 exact x_d1 z (rv_n 0 [vI a0,vI r1.Wide,vW r1.Seed,v2.Rows.1,v2.Door,vI r1.Added,v7.L.1,vI r6.Places] ag72 z z z z) (pk 6 [1,5,2,3,4]) le_ ⟨_,z,(⟨v2,v7⟩:Ae.G),z,z,z⟩
def DG(a0:Int)(a1:Int)(a2:UInt64):Option Af :=
 if (a0==1) then (DE a1).bind fun r3=>some (⟨1,r3,(⟨0,(⟨0,0,[],[],0⟩:Ad),(⟨[],0⟩:Ab)⟩:Ae)⟩:Af) else (DF a1 a2).bind fun r8=>some (⟨2,(⟨0,0,(⟨[],0⟩:Ab)⟩:Aa),r8⟩:Af)
theorem DG.ok{G R F}(a0:Int)(a1:Int)(a2:UInt64)(r:Af)(hm:DG a0 a1 a2=some r):CO prog 43 [vI a0,vI a1,vW a2] G R (F)
  (Ret fun u R' L'=>∃(p0:Af.G),u = .agg (Af.k r p0).toArray∧R'=R∧L'=OwS true 98 1 eV p0.A.R.L.1 p0.A.R.L.2::OwL (OwS true 9 1 eS) p0.A.R.L.2 r.A.R.L::OwS true 234 1 eV p0.T.S.Rows.1 p0.T.S.Rows.2::OwL (OwS true 3 1 eI) p0.T.S.Rows.2 r.T.S.Rows::OwS true 4 1 eB p0.T.S.Door r.T.S.Door::OwS true 98 1 eV p0.T.R.L.1 p0.T.R.L.2::OwL (OwS true 9 1 eS) p0.T.R.L.2 r.T.R.L::F):=by
 unfold DG at hm
 refine co_ofN (N:=16) func43 z z ?_
 refine csr ?_
 refine r_new (o_al ze74) fun b0 =>?_
 refine nssr (r_mv z (r_bin z z (bI_eq a0 1) (nsq ?_)))
 refine c_if (b:=(a0==1)) z (fun h1 =>?_) fun h1 =>?_
 ·have hm2:=ift hm h1
  refine csr (r_mv z ?_)
  obtain ⟨r3,hr3,hm7⟩:=bs hm2
  refine r_sw (s_w (o_call ca77 z (DE.ok a1 _ hr3))) ?_
  rintro _ R _ _ ⟨v4,rfl,rfl,rfl⟩
  refine r_u (ou_if (hd_o 0 z) fun hb0=>o_bld [vI 1,vI r3.Most,vI r3.Target,v4.R.L.1,vI r3.R.Places,vI 0,vI 0,vW 0,.slice none 0 0,.slice none 0 0,vI 0,.slice none 0 0,vI 0] z (fun _=>by (try dsimp only [Ac.k,Af.k,Ak.k,Ae.k,An.k,Ad.k,Aa.k,Aj.k]);obtain ⟨_,_,he0⟩:=hb0;rw [he0];kernel_rfl)) ?_
  refine rl_st (fun _ h=>mv2 h) ?_
  refine r_u0 (ou_if (one_o 1 z) fun ho0=>o_stn ag74 z z z (a_ z (a_ z (a_ z (a_ ho0 (a_ z (a_ z (a_ z (a_ z (a_ z (a_ z (a_ z (a_ z (a_ z al_n))))))))))))) z z z) ?_
  refine r_nil (x_seq (c_ret ?_))
  refine ex_st (fun _ h=>st_nil (ap:=true) (T:=234) (sz:=1) (en:=eV) (st_lnil (own:=OwS true 3 1 eI) h)) ?_
  refine ex_st (fun _ h=>st_nil (ap:=true) (T:=4) (sz:=1) (en:=eB) h) ?_
  refine ex_st (fun _ h=>st_nil (ap:=true) (T:=98) (sz:=1) (en:=eV) (st_lnil (own:=OwS true 9 1 eS) h)) ?_
  obtain rfl:=si hm7
  exact x_d1 z (rv_n 5 [vI 1,vI r3.Most,vI r3.Target,v4.R.L.1,vI r3.R.Places,vI 0,vI 0,vW 0,.slice none 0 0,.slice none 0 0 ,vI 0,.slice none 0 0  ,vI 0] ag74 z z z z) (pk 8 [6,7,3,4,2,0,1]) le_ ⟨_,z,(⟨v4,(⟨(⟨(.slice none 0 0,[]),.slice none 0 0 ⟩:Ad.G),(⟨(.slice none 0 0  ,[] )⟩:Ab.G)⟩:Ae.G)⟩:Af.G),z,z,z⟩
 have hm2:=iff_ hm h1
 refine c_skip (x_seq (csr (r_mv z (r_mv z ?_))))
 obtain ⟨r8,hr8,hm15⟩:=bs hm2
 refine r_sw (s_w (o_call ca78 z (DF.ok a1 a2 _ hr8))) ?_
 rintro _ R _ _ ⟨v9,rfl,rfl,rfl⟩
 refine r_u (ou_if (hd_o 0 z) fun hb0=>ou_if (hd_o 2 z) fun hb1=>ou_if (hd_o 3 z) fun hb2=>o_bld [vI 2,vI 0,vI 0,.slice none 0 0,vI 0,vI r8.Most,vI r8.S.Wide,vW r8.S.Seed,v9.S.Rows.1,v9.S.Door,vI r8.S.Added,v9.R.L.1,vI r8.R.Places] z (fun _=>by (try dsimp only [Ac.k,Af.k,Ak.k,Ae.k,An.k,Ad.k,Aa.k,Aj.k]);obtain ⟨_,_,he0⟩:=hb0;rw [he0];obtain ⟨_,_,he1⟩:=hb1;rw [he1];obtain ⟨_,_,he2⟩:=hb2;rw [he2];kernel_rfl)) ?_
 refine rl_st (fun _ h=>mv5 (mv2 (mv3 (mv3 h)))) ?_
 refine r_u0 (ou_if (one_o 1 z) fun ho0=>ou_if (one_o 2 z) fun ho1=>ou_if (one_o 3 z) fun ho2=>o_stn ag74 z z z (a_ z (a_ z (a_ z (a_ z (a_ z (a_ z (a_ z (a_ z (a_ ho0 (a_ ho1 (a_ z (a_ ho2 (a_ z al_n))))))))))))) z z z) ?_
 refine r_nil (x_seq (c_ret ?_))
 refine ex_st (fun _ h=>st_nil (ap:=true) (T:=98) (sz:=1) (en:=eV) (st_lnil (own:=OwS true 9 1 eS) h)) ?_
 obtain rfl:=si hm15
 exact x_d1 z (rv_n 2 [vI 2,vI 0,vI 0,.slice none 0 0,vI 0,vI r8.Most,vI r8.S.Wide,vW r8.S.Seed,v9.S.Rows.1,v9.S.Door,vI r8.S.Added,v9.R.L.1,vI r8.R.Places] ag74 z z z z) (pk 8 [0,1,3,6,4,5,7]) le_ ⟨_,z,(⟨(⟨(⟨(.slice none 0 0,[])⟩:Ab.G)⟩:Aa.G),v9⟩:Af.G),z,z,z⟩
def DH(a0:Au):Option Ac :=
 (DG a0.Policy a0.Entries a0.Seed).bind fun r2=>some (⟨a0,[],r2,[],0,0,0,0,0⟩:Ac)
theorem DH.ok{G R F}(a0:Au)(r:Ac)(hm:DH a0=some r):CO prog 22 [.agg (Au.c a0).toArray] G R (F)
  (Ret fun u R' L'=>∃(p0:Ac.G),u = .agg (Ac.k r p0).toArray∧R'=R∧L'=OwS true 50 4 Ai.c p0.T r.T::OwS true 98 1 eV p0.P.A.R.L.1 p0.P.A.R.L.2::OwL (OwS true 9 1 eS) p0.P.A.R.L.2 r.P.A.R.L::OwS true 234 1 eV p0.P.T.S.Rows.1 p0.P.T.S.Rows.2::OwL (OwS true 3 1 eI) p0.P.T.S.Rows.2 r.P.T.S.Rows::OwS true 4 1 eB p0.P.T.S.Door r.P.T.S.Door::OwS true 98 1 eV p0.P.T.R.L.1 p0.P.T.R.L.2::OwL (OwS true 9 1 eS) p0.P.T.R.L.2 r.P.T.R.L::OwS true 83 5 As.c p0.Sessions r.Sessions::F):=by
 unfold DH at hm
 refine co_ofN (N:=12) func22 z z ?_
 refine csr ?_
 refine r_new (o_bx (Au.c a0) z z) fun b0 =>?_
 refine r_new (o_al ze77) fun b1 =>?_
 refine r_nil (x_seq (c_seq ?_))
 obtain ⟨r2,hr2,hm13⟩:=bs hm
 refine c_any mixed (effs:=[7,9]) (V:=[]) ?_
 refine stn mk6_ [0,1,2,3,4,5,6] [7] [_,_,_,_,_,_,_] (q_u z z (o_ldn 1 (Au.c a0) ag24 z z z z) (q_fa z z fa24_0 z (q_ld z z 1 sc3 z z z (q_fa z z fa24_1 z (q_ld z z 1 sc3 z z z (q_fa z z fa24_3 z (q_ld z z 1 sc22 z z z qn))))))) ?_ (nxt z)
 refine ec (eo_w z (s_w (o_call ca43 z (DG.ok _ _ _ _ hr2))) ?_) en
 rintro _ R _ _ ⟨v3,rfl,rfl,rfl⟩
 refine stage_st (fun _ h=>mv7 (mv3 (mv4 (mv5 (mv5 h))))) ?_
 refine stx [8] mk6_ [0,8] [9] [_] (q_u z z (o_ldn 8 (Au.c a0) ag24 z z z z) (q_u z z (ou_if (hd_o 1 z) fun hb0=>ou_if (hd_o 2 z) fun hb1=>ou_if (hd_o 3 z) fun hb2=>ou_if (hd_o 4 z) fun hb3=>o_bld [vI a0.Policy,vI a0.Entries,vI a0.Bytes,vW a0.Seed,.slice none 0 0,vI r2.Kind,vI r2.A.Most,vI r2.A.Target,v3.A.R.L.1,vI r2.A.R.Places,vI r2.T.Most,vI r2.T.S.Wide,vW r2.T.S.Seed,v3.T.S.Rows.1,v3.T.S.Door,vI r2.T.S.Added,v3.T.R.L.1,vI r2.T.R.Places,.slice none 0 0,vW 0,vW 0,vW 0,vI 0,vI 0] z (fun _=>by (try dsimp only [Ac.k,Af.k,Ak.k,Ae.k,An.k,Ad.k,Aa.k,Aj.k]);obtain ⟨_,_,he0⟩:=hb0;rw [he0];obtain ⟨_,_,he1⟩:=hb1;rw [he1];obtain ⟨_,_,he2⟩:=hb2;rw [he2];obtain ⟨_,_,he3⟩:=hb3;rw [he3];kernel_rfl)) qn)) ?_ (nxt z)
 refine ec (eo_u z (s_u (ou_if (one_o 1 z) fun ho0=>ou_if (one_o 2 z) fun ho1=>ou_if (one_o 3 z) fun ho2=>ou_if (one_o 4 z) fun ho3=>o_stn ag77 z z z (a_ z (a_ z (a_ z (a_ z (a_ z (a_ z (a_ z (a_ z (a_ ho0 (a_ z (a_ z (a_ z (a_ z (a_ ho1 (a_ ho2 (a_ z (a_ ho3 (a_ z (a_ z (a_ z (a_ z (a_ z (a_ z (a_ z al_n)))))))))))))))))))))))) z z z)) le_ ?_) en
 refine stage z z z z mk6_ [] [] z z z qn en ?_
 intro _
 refine ex_sub (E':=[(2,pt b1 0)]) ⟨z,y_⟩ ?_
 refine x_seq (c_ret ?_)
 refine ex_st (fun _ h=>st_nil (ap:=true) (T:=50) (sz:=4) (en:=Ai.c) h) ?_
 refine ex_st (fun _ h=>st_nil (ap:=true) (T:=83) (sz:=5) (en:=As.c) h) ?_
 obtain rfl:=si hm13
 exact x_d1 z (rv_n 2 [vI a0.Policy,vI a0.Entries,vI a0.Bytes,vW a0.Seed,.slice none 0 0,vI r2.Kind,vI r2.A.Most,vI r2.A.Target,v3.A.R.L.1,vI r2.A.R.Places,vI r2.T.Most,vI r2.T.S.Wide,vW r2.T.S.Seed,v3.T.S.Rows.1,v3.T.S.Door,vI r2.T.S.Added,v3.T.R.L.1,vI r2.T.R.Places,.slice none 0 0 ,vW 0,vW 0,vW 0,vI 0,vI 0] ag77 z z z z) (pk 11 [1,3,7,4,8,5,6,9,0]) le_ ⟨_,z,(⟨.slice none 0 0,v3,.slice none 0 0 ⟩:Ac.G),z,z,z⟩
def B2(a0:AI):Bool :=
 if ((decide (64<(a0.Key.length:Int))||decide (4096<(a0.Value.length:Int)))||decide (1073741824<a0.TTL)) then false else lt (if (a0.Kind==1) then (a0.Kind==1) else (a0.Kind==3)) fun p3=>if p3 then ((((a0.Key != [])&&(a0.Value==[]))&&(a0.TTL==0))&&(a0.Version==0)) else if (a0.Kind==2) then ((a0.Key != [])&&(a0.Version==0)) else if (a0.Kind==4) then ((a0.Key != [])&&decide (1≤a0.Version)) else if (a0.Kind==5) then decide (a0=(⟨5,[],[],0,0⟩:AI)) else false
theorem B2.ok{G R F}(a0:AI)(r:Bool)(hm:B2 a0=r):CO prog 34 [.agg (AI.c a0).toArray] G R (F)
  (Ret fun u R' L'=>u=vB r∧R'=R∧L'=F):=by
 unfold B2 at hm
 refine co_ofN (N:=66) func34 z z ?_
 refine csr ?_
 refine r_new (o_bx (AI.c a0) z z) fun b0 =>?_
 refine r_as z (nssr (r_fa fa27_1 z (r_ld 0 sc9 z z z (r_u (o_lenS underlying9 z) (r_bin z z (bI_gt _ 64) (r_mv z ?_))))))
 refine r_s (s_gf z z fun g=>o_fa fa27_2 z) ?_
 refine r_s (s_gf z z fun g=>o_ld 0 sc9 (evg z g) z z) ?_
 refine r_s (s_gf z z fun g=>o_lenS underlying9 (evg z g)) ?_
 refine r_s (s_gf z z fun g=>o_bin (evg z g) z (bI_gt _ 4096)) ?_
 refine r_u (o_or z z) (r_mv z ?_)
 refine r_s (s_gf z z fun g=>o_fa fa27_3 z) ?_
 refine r_s (s_gf z z fun g=>o_ld 0 sc22 (evg z g) z z) ?_
 refine r_s (s_gf z z fun g=>o_bin (evg z g) z (bW_gt _ 1073741824)) ?_
 refine r_u (o_or z z) (nsq ?_)
 refine c_if (b:=((decide (64<(a0.Key.length:Int))||decide (4096<(a0.Value.length:Int)))||decide (1073741824<a0.TTL))) z (fun h1 =>?_) fun h1 =>?_
 ·have hm2:=ift hm h1
  refine csr (r_as z (r_nil (x_seq (c_ret ?_))))
  subst hm2
  refine ex_st (pk 1 []) ?_
  exact x_r1 z (rv_t z) le_ ⟨_,z,z,z,z⟩
 have hm2:=iff_ hm h1
 refine c_skip (x_seq (c_seq (csr (r_fa fa27_0 z (r_ld 0 sc3 z z z (r_nil (x_seq (c_blk (c_seq (csr (r_bin z z (bI_eq _ 1) (r_as z (nsq ?_)))))))))))))
 obtain ⟨p3,hp4,hm5⟩:=ltx hm2
 refine cd_join (E':=[(1,pt b0 0),(19,vI a0.Kind),(20,vB p3)]) (L':=Bk b0 27 (AI.c a0)::F) ?_ fun K6 =>?_
 rotate_left
 ·refine c_if (b:=(a0.Kind==1)) z (fun h15 =>?_) fun h15 =>?_
  ·have hm16:=ift hp4 h15
   refine c_skip ?_
   subst hm16
   exact x_sub K6 ⟨z,z,z,y_⟩ id_
  have hm16:=iff_ hp4 h15
  refine c_reg (r_bin z z (bI_eq _ 3) (r_as z (r_nil ?_)))
  subst hm16
  exact x_sub K6 ⟨z,z,z,y_⟩ id_
 refine x_seq ?_
 refine c_if (b:=p3) z (fun h7 =>?_) fun h7 =>?_
 ·have hm8:=ift hm5 h7
  refine csr (r_fa fa27_1 z (r_ld 0 sc9 z z z (r_bin z z (bS_ne _ []) (r_mv z ?_))))
  refine r_s (s_gt z z fun g=>o_fa fa27_2 z) ?_
  refine r_s (s_gt z z fun g=>o_ld 0 sc9 (evg z g) z z) ?_
  refine r_s (s_gt z z fun g=>o_bin (evg z g) z (bS_eq _ [])) ?_
  refine r_u (o_and z z) (r_mv z ?_)
  refine r_s (s_gt z z fun g=>o_fa fa27_3 z) ?_
  refine r_s (s_gt z z fun g=>o_ld 0 sc22 (evg z g) z z) ?_
  refine r_s (s_gt z z fun g=>o_bin (evg z g) z (bW_eq _ 0)) ?_
  refine r_u (o_and z z) (r_mv z ?_)
  refine r_s (s_gt z z fun g=>o_fa fa27_4 z) ?_
  refine r_s (s_gt z z fun g=>o_ld 0 sc22 (evg z g) z z) ?_
  refine r_s (s_gt z z fun g=>o_bin (evg z g) z (bW_eq _ 0)) ?_
  refine r_u (o_and z z) (r_as z (r_nil (x_seq (c_ret ?_))))
  subst hm8
  refine ex_st (pk 1 []) ?_
  exact x_r1 z (rv_t z) le_ ⟨_,z,z,z,z⟩
 have hm8:=iff_ hm5 h7
 refine csr (r_bin z z (bI_eq _ 2) (r_as z (nsq ?_)))
 refine c_if (b:=(a0.Kind==2)) z (fun h9 =>?_) fun h9 =>?_
 ·have hm10:=ift hm8 h9
  refine csr (r_fa fa27_1 z (r_ld 0 sc9 z z z (r_bin z z (bS_ne _ []) (r_mv z ?_))))
  refine r_s (s_gt z z fun g=>o_fa fa27_4 z) ?_
  refine r_s (s_gt z z fun g=>o_ld 0 sc22 (evg z g) z z) ?_
  refine r_s (s_gt z z fun g=>o_bin (evg z g) z (bW_eq _ 0)) ?_
  refine r_u (o_and z z) (r_as z (r_nil (x_seq (c_ret ?_))))
  subst hm10
  refine ex_st (pk 1 []) ?_
  exact x_r1 z (rv_t z) le_ ⟨_,z,z,z,z⟩
 have hm10:=iff_ hm8 h9
 refine csr (r_bin z z (bI_eq _ 4) (r_as z (nsq ?_)))
 refine c_if (b:=(a0.Kind==4)) z (fun h11 =>?_) fun h11 =>?_
 ·have hm12:=ift hm10 h11
  refine csr (r_fa fa27_1 z (r_ld 0 sc9 z z z (r_bin z z (bS_ne _ []) (r_mv z ?_))))
  refine r_s (s_gt z z fun g=>o_fa fa27_4 z) ?_
  refine r_s (s_gt z z fun g=>o_ld 0 sc22 (evg z g) z z) ?_
  refine r_s (s_gt z z fun g=>o_bin (evg z g) z (bW_ge _ 1)) ?_
  refine r_u (o_and z z) (r_as z (r_nil (x_seq (c_ret ?_))))
  subst hm12
  refine ex_st (pk 1 []) ?_
  exact x_r1 z (rv_t z) le_ ⟨_,z,z,z,z⟩
 have hm12:=iff_ hm10 h11
 refine csr (r_bin z z (bI_eq _ 5) (r_as z (nsq ?_)))
 refine c_if (b:=(a0.Kind==5)) z (fun h13 =>?_) fun h13 =>?_
 ·have hm14:=ift hm12 h13
  refine csr ?_
  refine r_u (o_ldn 0 (AI.c a0) ag27 z z z z) ?_
  refine r_u (o_bld [vI 5,vS [],vS [],vW 0,vW 0] z kr) (r_bin z z (AI.beq_27 a0 (⟨5,[],[],0,0⟩:AI)) (r_as z (r_nil (x_seq (c_ret ?_)))))
  subst hm14
  refine ex_st (pk 1 []) ?_
  exact x_r1 z (rv_t z) le_ ⟨_,z,z,z,z⟩
 have hm14:=iff_ hm12 h13
 refine c_skip (x_blk (x_seq (csr (r_as z (r_nil (x_seq (c_ret ?_)))))))
 subst hm14
 refine ex_st (pk 1 []) ?_
 exact x_r1 z (rv_t z) le_ ⟨_,z,z,z,z⟩
open Go.Shelf Go.Proofs in
def Tryz.keysL_ren:Go.Shelf.Ren:=⟨fun | 7=>74 | 10=>127 | n=>n,fun | 23=>136 | 26=>9 | 3=>50 | 28=>148 | 0=>0 | 27=>147 | 33=>100 | 4=>4 | n=>n,fun | n=>n⟩
theorem Tryz.keysL:Go.Proofs.SlLaysZ.n7 prog Tryz.keysL_ren := {
 mixed:=by kernel_rfl
 f7:=⟨Tryz.f74.name,by decide,func74.trans (congrArg some (by kernel_rfl))⟩
 f10:=⟨Tryz.f127.name,by decide,func127.trans (congrArg some (by kernel_rfl))⟩
 t0:=underlying0
 a0:=Tryz.isAgg0
 z0:=Tryz.sizeOf0
 v0:=Tryz.zeroValue0
 t4:=underlying4
 a4:=Tryz.isAgg4
 z4:=Tryz.sizeOf4
 v4:=Tryz.zeroValue4
 t23:=underlying136
 a23:=Tryz.isAgg136
 z23:=Tryz.sizeOf136
 v23:=Tryz.zeroValue136
 t26:=underlying9
 a26:=Tryz.isAgg9
 z26:=Tryz.sizeOf9
 v26:=Tryz.zeroValue9
 t27:=underlying147
 a27:=Tryz.isAgg147
 z27:=Tryz.sizeOf147
 v27:=Tryz.zeroValue147
 t28:=underlying148
 a28:=Tryz.isAgg148
 z28:=Tryz.sizeOf148
 v28:=Tryz.zeroValue148
 t33:=underlying100
 a33:=Tryz.isAgg100
 z33:=Tryz.sizeOf100
 v33:=Tryz.zeroValue100 }
def Tryz.sortedL_ren:Go.Shelf.Ren:=⟨fun | 6=>73 | 8=>125 | 9=>126 | 11=>171 | 13=>149 | 12=>172 | 23=>199 | 24=>200 | 14=>217 | 15=>218 | 16=>219 | 17=>220 | 18=>221 | 19=>222 | 20=>223 | 21=>224 | 22=>225 | 25=>241 | 26=>233 | 27=>234 | 28=>242 | 29=>243 | 30=>244 | 31=>250 | n=>n,fun | 26=>9 | 28=>148 | 24=>98 | 0=>0 | 3=>3 | 37=>134 | 48=>128 | 50=>22 | 4=>4 | 40=>265 | 39=>264 | 45=>231 | 5=>5 | 9=>9 | 51=>291 | 55=>294 | 57=>300 | 58=>255 | 33=>100 | n=>n,fun | n=>n⟩
theorem Tryz.sortedL:Go.Proofs.SlLaysZ.n6 prog Tryz.sortedL_ren := {
 mixed:=by kernel_rfl
 f6:=⟨Tryz.f73.name,by decide,func73.trans (congrArg some (by kernel_rfl))⟩
 f8:=⟨Tryz.f125.name,by decide,func125.trans (congrArg some (by kernel_rfl))⟩
 f11:=⟨Tryz.f171.name,by decide,func171.trans (congrArg some (by kernel_rfl))⟩
 t0:=underlying0
 a0:=Tryz.isAgg0
 z0:=Tryz.sizeOf0
 v0:=Tryz.zeroValue0
 t24:=underlying98
 a24:=Tryz.isAgg98
 z24:=Tryz.sizeOf98
 v24:=Tryz.zeroValue98
 t26:=underlying9
 a26:=Tryz.isAgg9
 z26:=Tryz.sizeOf9
 v26:=Tryz.zeroValue9
 t28:=underlying148
 a28:=Tryz.isAgg148
 z28:=Tryz.sizeOf148
 v28:=Tryz.zeroValue148
 i26:=by kernel_rfl }
def Tryz.sortL_ren:Go.Shelf.Ren:=⟨fun | 6=>126 | 8=>149 | 9=>172 | 19=>199 | 20=>200 | 21=>217 | 22=>218 | 23=>219 | 24=>220 | 25=>221 | 26=>222 | 27=>223 | 28=>224 | 29=>225 | 36=>241 | 31=>233 | 32=>234 | 37=>242 | 38=>243 | 39=>244 | 41=>250 | n=>n,fun | 27=>98 | 29=>9 | 3=>3 | 32=>134 | 26=>98 | 0=>0 | 44=>128 | 46=>22 | 4=>4 | 36=>265 | 35=>264 | 41=>231 | 5=>5 | 9=>9 | 53=>291 | 57=>294 | 63=>300 | 64=>255 | n=>n,fun | n=>n⟩
theorem Tryz.sortL:Go.Proofs.SlLaysM.n6 prog Tryz.sortL_ren := {
 mixed:=by kernel_rfl
 f6:=⟨Tryz.f126.name,by decide,func126.trans (congrArg some (by kernel_rfl))⟩
 f8:=func149.trans (congrArg some (by kernel_rfl))
 f9:=⟨Tryz.f172.name,by decide,func172.trans (congrArg some (by kernel_rfl))⟩
 f19:=func199.trans (congrArg some (by kernel_rfl))
 f20:=func200.trans (congrArg some (by kernel_rfl))
 f21:=⟨Tryz.f217.name,by decide,func217.trans (congrArg some (by kernel_rfl))⟩
 f22:=⟨Tryz.f218.name,by decide,func218.trans (congrArg some (by kernel_rfl))⟩
 f23:=⟨Tryz.f219.name,by decide,func219.trans (congrArg some (by kernel_rfl))⟩
 f24:=⟨Tryz.f220.name,by decide,func220.trans (congrArg some (by kernel_rfl))⟩
 f25:=⟨Tryz.f221.name,by decide,func221.trans (congrArg some (by kernel_rfl))⟩
 f26:=⟨Tryz.f222.name,by decide,func222.trans (congrArg some (by kernel_rfl))⟩
 f27:=⟨Tryz.f223.name,by decide,func223.trans (congrArg some (by kernel_rfl))⟩
 f28:=⟨Tryz.f224.name,by decide,func224.trans (congrArg some (by kernel_rfl))⟩
 f29:=⟨Tryz.f225.name,by decide,func225.trans (congrArg some (by kernel_rfl))⟩
 f31:=func233.trans (congrArg some (by kernel_rfl))
 f32:=func234.trans (congrArg some (by kernel_rfl))
 f36:=⟨Tryz.f241.name,by decide,func241.trans (congrArg some (by kernel_rfl))⟩
 f37:=⟨Tryz.f242.name,by decide,func242.trans (congrArg some (by kernel_rfl))⟩
 f38:=⟨Tryz.f243.name,by decide,func243.trans (congrArg some (by kernel_rfl))⟩
 f39:=⟨Tryz.f244.name,by decide,func244.trans (congrArg some (by kernel_rfl))⟩
 f41:=⟨Tryz.f250.name,by decide,func250.trans (congrArg some (by kernel_rfl))⟩
 t0:=underlying0
 a0:=Tryz.isAgg0
 z0:=Tryz.sizeOf0
 v0:=Tryz.zeroValue0
 t3:=underlying3
 a3:=Tryz.isAgg3
 z3:=Tryz.sizeOf3
 v3:=Tryz.zeroValue3
 t4:=underlying4
 a4:=Tryz.isAgg4
 z4:=Tryz.sizeOf4
 v4:=Tryz.zeroValue4
 t5:=underlying5
 a5:=Tryz.isAgg5
 z5:=Tryz.sizeOf5
 v5:=Tryz.zeroValue5
 t9:=underlying9
 a9:=Tryz.isAgg9
 z9:=Tryz.sizeOf9
 v9:=Tryz.zeroValue9
 t26:=underlying98
 a26:=Tryz.isAgg98
 z26:=Tryz.sizeOf98
 v26:=Tryz.zeroValue98
 t27:=underlying98
 a27:=Tryz.isAgg98
 z27:=Tryz.sizeOf98
 v27:=Tryz.zeroValue98
 t29:=underlying9
 a29:=Tryz.isAgg9
 z29:=Tryz.sizeOf9
 v29:=Tryz.zeroValue9
 t32:=underlying134
 a32:=Tryz.isAgg134
 z32:=Tryz.sizeOf134
 v32:=Tryz.zeroValue134
 t35:=underlying264
 a35:=Tryz.isAgg264
 z35:=Tryz.sizeOf264
 v35:=Tryz.zeroValue264
 t36:=underlying265
 a36:=Tryz.isAgg265
 z36:=Tryz.sizeOf265
 v36:=Tryz.zeroValue265
 t41:=underlying231
 a41:=Tryz.isAgg231
 z41:=Tryz.sizeOf231
 v41:=Tryz.zeroValue231
 t44:=underlying128
 a44:=Tryz.isAgg128
 z44:=Tryz.sizeOf128
 v44:=Tryz.zeroValue128
 t46:=underlying22
 a46:=Tryz.isAgg22
 z46:=Tryz.sizeOf22
 v46:=Tryz.zeroValue22
 t53:=underlying291
 a53:=Tryz.isAgg291
 z53:=Tryz.sizeOf291
 v53:=Tryz.zeroValue291
 t57:=underlying294
 a57:=Tryz.isAgg294
 z57:=Tryz.sizeOf294
 v57:=Tryz.zeroValue294
 t63:=underlying300
 a63:=Tryz.isAgg300
 z63:=Tryz.sizeOf300
 v63:=Tryz.zeroValue300
 t64:=underlying255
 a64:=Tryz.isAgg255
 z64:=Tryz.sizeOf255
 v64:=Tryz.zeroValue255 }
def Tryz.delL_ren:Go.Shelf.Ren:=⟨fun | 10=>64 | 6=>115 | n=>n,fun | 22=>98 | 23=>9 | 25=>100 | 3=>3 | 4=>4 | 0=>0 | n=>n,fun | n=>n⟩
theorem Tryz.delL:Go.Proofs.SlLaysH.n10 prog Tryz.delL_ren := {
 mixed:=by kernel_rfl
 f6:=⟨Tryz.f115.name,by decide,func115.trans (congrArg some (by kernel_rfl))⟩
 f10:=⟨Tryz.f64.name,by decide,func64.trans (congrArg some (by kernel_rfl))⟩
 t0:=underlying0
 a0:=Tryz.isAgg0
 z0:=Tryz.sizeOf0
 v0:=Tryz.zeroValue0
 t3:=underlying3
 a3:=Tryz.isAgg3
 z3:=Tryz.sizeOf3
 v3:=Tryz.zeroValue3
 t4:=underlying4
 a4:=Tryz.isAgg4
 z4:=Tryz.sizeOf4
 v4:=Tryz.zeroValue4
 t22:=underlying98
 a22:=Tryz.isAgg98
 z22:=Tryz.sizeOf98
 v22:=Tryz.zeroValue98
 a23:=Tryz.isAgg9
 z23:=Tryz.sizeOf9
 t25:=underlying100
 a25:=Tryz.isAgg100
 z25:=Tryz.sizeOf100
 v25:=Tryz.zeroValue100 }
open Go.Proofs in
theorem sortsL(m:Nat):AnyZ.SortsIn prog Tryz.sortedL_ren Fence.wide m :=
 ⟨fun blk off cap ss W hH hblk hsz=>callsIn_wide.2 (AnyM.slices_Sort_string Tryz.sortL blk off cap ss W hH hblk hsz),fun p cap W=>callsIn_wide.2 (AnyM.slices_Sort_string_none Tryz.sortL p cap W)⟩
open Go.Proofs in
theorem mkeysL{G R}{F:List HP}{V:Type}{vv:V→Value}{v:Value}{m:List (Str×V)}: CO prog 74 [v] G R (OwM vS vv v m::F) (Ret fun u R' L'=>∃b,u = .func (.func 127) #[] #[pt b 0]∧R'=R∧L'=Bk b 136 [v]::OwM vS vv v m::F) :=
 co_mkeys fun mb w=>AnyZ.keys_in Tryz.keysL Fence.wide 5 trivial rfl mb w
open Go.Proofs in
theorem sortedL{G R}{F:List HP}{V:Type}{vv:V→Value}{v:Value}{m:List (Str×V)}{b:Nat}{r:List Str}(hm:mkeys m=some r):CO prog 73 [.func (.func 127) #[] #[pt b 0]] G R (Bk b 136 [v]::OwM vS vv v m::F) (Ret fun u R' L'=>R'=R∧L'=OwS true 9 1 eS u r::Bk b 136 [v]::OwM vS vv v m::F) :=
 co_sorted underlying9 (fun b r nn D w hb hc hown h1 h2=>AnyZ.sorted_in Tryz.sortedL Fence.wide 5 trivial trivial trivial trivial rfl (by omega) (sortsL _) (enters_of func126 (by kernel_rfl) rfl) 127 #[.pointer (some ⟨b,0,none⟩)] trivial (enters_of func127 (by kernel_rfl) rfl) _ _ h1 h2 _
  (AnyZ.keys_gives (ρ:=Tryz.keysL_ren) { Tryz.keysL with } Fence.wide _ trivial rfl (by omega) b r nn D w hb hc hown)) hm
def C5(a0:Am):Option (List Str):=mkeys a0.m
theorem C5.ok{G R F}(b0_:Nat)(a0:Am)(g0_:Am.G)(r:List Str)(hm:C5 a0=some r):CO prog 39 [pt b0_ 0] G R (Bk b0_ 138 [g0_.m,vI a0.bytes]::OwM vS Ai.v g0_.m a0.m::F)
  (Ret fun u R' L'=>∃p0,u=p0∧R'=R∧L'=OwS true 9 1 eS p0 r::Bk b0_ 138 [g0_.m,vI a0.bytes]::OwM vS Ai.v g0_.m a0.m::F):=by
 unfold C5 at hm
 refine co_ofN (N:=11) func39 rfl rfl ?_
 refine c_seq (c_reg ?_)
 refine r_u (o_as rfl) (r_nil (x_seq (c_seq (c_seq (c_reg ?_)))))
 refine r_u (o_mv rfl) (r_u (o_bin rfl rfl (bP_eqp underlying92)) (r_nil (x_seq (c_ff rfl (c_skip (x_seq (c_seq (c_reg ?_))))))))
 refine r_u (o_mv rfl) (r_u (o_nc rfl) (r_u (o_fa fa138_0 rfl) (r_u (o_ld 0 sc136 rfl rfl rfl) ?_)))
 refine rl_st (pk 2 [1,0]) ?_
 refine r_sw (s_w (o_call ca74 rfl mkeysL)) ?_
 rintro _ R _ _ ⟨b3,rfl,rfl,rfl⟩
 refine r_sw (s_w (o_call ca73 rfl (sortedL hm))) ?_
 rintro v1 R _ _ ⟨rfl,rfl⟩
 refine r_u (o_as rfl) (r_nil (x_seq (c_ret ?_)))
 refine ex_st (pk 4 [0,3,2]) ?_
 exact x_r1 rfl (rv_t rfl) le_ ⟨_,rfl,v1,rfl,rfl,rfl⟩
def endp(m:List (Str×Ai))(now:UInt64)(x:Str):Bool:=(((mget m x).getD ((⟨[],[],0,0⟩:Ai):Ai)).End.toNat==0)||decide (now.toNat<((mget m x).getD ((⟨[],[],0,0⟩:Ai):Ai)).End.toNat)
open Go.Shelf Go.RowKit Go.Lib Go.Sort Go.Proofs in
theorem endedCloW(b1 b2 b0 r:Nat)(now e:Int)(x:List UInt8)(k0 v0:Value)(n0:Int)(W:World)(h1:W.cell? ⟨b1,0,none⟩=some (.pointer (some ⟨b0,0,none⟩)))(h2:W.cell? ⟨b2,0,none⟩=some (.int .u64 now))(h3:W.cell? ⟨b0,0,none⟩=some (.map (some r)))
  (hl:(Instr.lookup 136 (.map (some r)) (encStr x) false).run prog W = .ok (.agg #[k0,v0,.int .u64 n0,.int .u64 e]) W) (hf:(Instr.field 50 (.agg #[k0,v0,.int .u64 n0,.int .u64 e]) 3).run prog W = .ok (.int .u64 e) W) (p:Bool) (hp:p=(e==0||decide (now<e))) :
  FnGives prog 65 #[.pointer (some ⟨b1,0,none⟩),.pointer (some ⟨b2,0,none⟩)] #[encStr x] (.bool p) W:=by
 show Calls prog 65 #[encStr x,.pointer (some ⟨b1,0,none⟩),.pointer (some ⟨b2,0,none⟩)] W _
 go_enter func65,Tryz.ntmps65
 go_wp2
 all_goals (go_ret;exact ⟨by simp_all,0,rfl⟩)
open Go.Proofs in
theorem endedClo(b1 b2 b0:Nat)(gm y:Value)(now:UInt64)(m:List (Str×Ai))(W:World)(x:Str)(h:HasL [Bk b1 92 [pt b0 0],Bk b2 22 [vW now],Bk b0 138 [gm,y],OwM vS Ai.v gm m] W):
  FnGives prog 65 #[pt b1 0,pt b2 0] #[encStr x] (.bool (endp m now x)) W:=by
 obtain ⟨k1,p1,q1⟩:=h 0 _ rfl
 obtain ⟨k2,p2,q2⟩:=h 1 _ rfl
 obtain ⟨k0,p0,q0⟩:=h 2 _ rfl
 obtain ⟨km,⟨r,es,clock,rfl,pm,he,_⟩,qm⟩:=h 3 _ rfl
 have c1:=q1 _ _ p1
 have c2:=q2 _ _ p2
 have c0:=q0 _ _ p0
 have cm:=qm _ _ pm
 have hl:=run_lk (P:=prog) (t:=136) (k:=9) (e:=50) underlying136 (kok_S underlying9) (z0:=((⟨[],[],0,0⟩:Ai):Ai)) kr cm he x
 exact endedCloW b1 b2 b0 r now.toNat _ x _ _ _ W (by simp [World.cell?,c1,pt]) (by simp [World.cell?,c2,vW]) (by simp [World.cell?,c0]) hl (by kernel_rfl) _ (by rw [Bool.eq_iff_iff];unfold endp;simp only [Bool.or_eq_true,beq_iff_eq,decide_eq_true_eq];omega)
theorem idxNil{G R}{F:List HP}{fv:Value}: CO prog 115 [.slice none 0 0,fv] G R F (Ret fun u R' L'=>u=vI (-1)∧R'=R∧L'=F):=by
 refine co_ofN (N:=19) func115 rfl rfl ?_
 refine c_seq <| c_reg <| r_u (o_as rfl) <| r_nil <| x_seq <| c_seq <| c_seq <| c_reg <| r_u (o_mv rfl) <| r_u (o_lenN underlying98 rfl) <| r_u (o_mv rfl) <| r_nil <| x_seq <| c_blk ?_
 refine cd_loop (σ:=Unit) (M:=fun k _=>k=1) (Ef:=fun _=>[(7,vI 0),(8,vI 0)]) (Lf:=fun _=>F) 1 () rfl ⟨rfl,rfl,y_⟩ (fun _ h=>h) (fun _ h=>by cases h) ?_
 intro k s hk
 refine c_seq <| c_reg <| r_u (o_bin rfl rfl (bI_lt 0 0)) <| r_nil <| x_seq <| c_seq <| c_ff rfl ?_
 refine c_exit (x_exit (ks':=_) rfl ?_)
 refine x_seq <| c_seq <| c_reg <| r_u (o_as rfl) <| r_nil <| x_seq <| c_ret ?_
 exact x_r1 rfl (rv_t rfl) le_ ⟨_,rfl,rfl,rfl,rfl⟩
theorem delNil{G R}{F:List HP}{fv:Value}: CO prog 64 [.slice none 0 0,fv] G R F (Ret fun u R' L'=>u = .slice none 0 0∧R'=R∧L'=F):=by
 refine co_ofN (N:=42) func64 rfl rfl ?_
 refine c_seq <| c_reg <| r_u (o_as rfl) <| r_nil <| x_seq <| c_seq <| c_reg <| r_u (o_mv rfl) <| r_u (o_mv rfl) ?_
 refine r_c (s_w (o_call ca115 rfl idxNil)) ?_
 refine r_u (o_as rfl) <| r_nil <| x_seq <| c_seq <| c_seq <| c_reg <| r_u (o_mv rfl) <| r_u (o_bin rfl rfl (bI_eq (-1) (-1))) <| r_nil <| x_seq <| c_tt rfl (c_seq <| c_reg <| r_u (o_mv rfl) <| r_u (o_as rfl) <| r_nil <| x_seq <| c_ret ?_)
 exact x_r1 rfl (rv_t rfl) le_ ⟨_,rfl,rfl,rfl,rfl⟩
open Go.Proofs in
theorem delC{G R}{F:List HP}{b1 b2 b0:Nat}{gm y v:Value}{now:UInt64}{m:List (Str×Ai)}{ks:List Str}:
  CO prog 64 [v,.func (.func 65) #[] #[pt b1 0,pt b2 0]] G R (OwS true 9 1 eS v ks::Bk b1 92 [pt b0 0]::Bk b2 22 [vW now]::Bk b0 138 [gm,y]::OwM vS Ai.v gm m::F)
   (Ret fun u R' L'=>R'=R∧L'=OwS true 9 1 eS u (ks.filter fun x => !endp m now x)::Bk b1 92 [pt b0 0]::Bk b2 22 [vW now]::Bk b0 138 [gm,y]::OwM vS Ai.v gm m::F) :=
 co_del (A:=[Bk b1 92 [pt b0 0],Bk b2 22 [vW now],Bk b0 138 [gm,y],OwM vS Ai.v gm m]) (lb:=[pt b1 0,pt b2 0]) (fun W x h=>endedClo b1 b2 b0 gm y now m W x h) delNil
  fun blk off cap d w hp hpo hH h1 h2=>AnyE.slices_DeleteFunc Tryz.delL encStr (fun _=>rfl) _ 65 _ (enters_of func65 (by kernel_rfl) rfl) [] Tryz.zeroValue9 blk off cap d w hp hpo hH h1 h2
def CV(a0:Am)(a1:UInt64):Option (List Str):=(mkeys a0.m).bind fun l=>some (l.filter fun x => !endp a0.m a1 x)
theorem CV.ok{G R F}(b0_:Nat)(a0:Am)(g0_:Am.G)(a1:UInt64)(r:List Str)(hm:CV a0 a1=some r):CO prog 35 [pt b0_ 0,vW a1] G R (Bk b0_ 138 [g0_.m,vI a0.bytes]::OwM vS Ai.v g0_.m a0.m::F)
  (Ret fun u R' L'=>∃p0,u=p0∧R'=R∧L'=OwS true 9 1 eS p0 r::Bk b0_ 138 [g0_.m,vI a0.bytes]::OwM vS Ai.v g0_.m a0.m::F):=by
 unfold CV at hm
 refine co_ofN (N:=9) func35 rfl rfl ?_
 refine c_seq (c_reg ?_)
 refine r_new (o_bx [pt b0_ 0] rfl rfl) fun b1 =>?_
 refine r_new (o_bx [vW a1] rfl rfl) fun b2 =>?_
 refine r_u (o_as rfl) (r_nil (x_seq (c_seq (c_reg ?_))))
 refine r_u (o_ld 1 sc92 rfl rfl rfl) ?_
 obtain ⟨r3,hr3,hm5⟩:=bs hm
 refine rl_st (pk 4 [2,3,0,1]) ?_
 refine r_sw (s_w (o_call ca39 rfl (C5.ok b0_ a0 g0_ r3 hr3))) ?_
 rintro v4 R _ _ ⟨_,rfl,rfl,rfl⟩
 refine r_u (o_mf (vs:=[pt b1 0,pt b2 0]) rfl) ?_
 refine rl_st (pk 5 [0,4,3,1,2]) ?_
 refine r_sw (s_w (o_call ca64 rfl delC)) ?_
 rintro v5 R _ _ ⟨rfl,rfl⟩
 refine r_u (o_as rfl) (r_nil (x_seq (c_ret ?_)))
 obtain rfl:=si hm5
 refine ex_st (pk 5 [0,3,4]) ?_
 exact x_r1 rfl (rv_t rfl) le_ ⟨_,rfl,v5,rfl,rfl,rfl⟩
def AT(a0:Am)(a1:Str):Ai×Bool :=
 (((mget a0.m a1).getD ((⟨[],[],0,0⟩:Ai):Ai)),(mget a0.m a1).isSome)
theorem AT.ok{G R F}(b0_:Nat)(a0:Am)(g0_:Am.G)(a1:Str)(r:Ai×Bool)(hm:AT a0 a1=r):CO prog 40 [pt b0_ 0,vS a1] G R (Bk b0_ 138 [g0_.m,vI a0.bytes]::OwM vS Ai.v g0_.m a0.m::F)
  (Ret fun u R' L'=>u = .tuple #[.agg (Ai.c r.1).toArray,vB r.2]∧R'=R∧L'=Bk b0_ 138 [g0_.m,vI a0.bytes]::OwM vS Ai.v g0_.m a0.m::F):=by
 unfold AT at hm
 refine co_ofN (N:=22) func40 z z ?_
 refine csr ?_
 refine r_new (o_al ze50) fun b1 =>?_
 refine r_as z (nssr (r_mv z (r_bin z z (bP_eqp underlying92) (nsq (c_ff z (c_skip (x_seq (csr (r_mv z (r_nc z (r_fa fa138_0 z (r_ld 1 sc136 z z z (r_mv z ?_)))))))))))))
 refine r_u (o_lk (kv:=vS) (vv:=Ai.v) (key:=a1) (z0:=((⟨[],[],0,0⟩:Ai):Ai)) 2 underlying136 (kok_S underlying9) kr z z z) (r_mv z (r_ext z z (r_ext z z ?_)))
 refine r_new (o_al ze50) fun b2 =>?_
 refine r_u0 (o_stn ag50 z z z z z z z) (r_as z (nsr ?_))
 refine r_u (o_ldn 0 (Ai.c ((mget a0.m a1).getD ((⟨[],[],0,0⟩:Ai):Ai))) ag50 z z z z) (r_mv z ?_)
 refine rl_st (fun _ h=>mv1 h) ?_
 refine r_u0 (o_stn ag50 z z z z z z z) (r_as z (r_nil (x_seq (c_ret ?_))))
 subst hm
 exact x_d2 z (rv_n 0 (Ai.c ((mget a0.m a1).getD ((⟨[],[],0,0⟩:Ai):Ai))) ag50 z z z z) (rv_t z) (pk 4 [2,3]) le_ ⟨_,z,z,z,z⟩
def D0(a0:Ai):Int :=
 i64 ((a0.Key.length:Int)+(a0.Value.length:Int))
theorem D0.ok{G R F}(a0:Ai)(r:Int)(hm:D0 a0=r):CO prog 66 [.agg (Ai.c a0).toArray] G R (F)
  (Ret fun u R' L'=>u=vI r∧R'=R∧L'=F):=by
 unfold D0 at hm
 refine co_ofN (N:=10) func66 z z ?_
 refine csr ?_
 refine r_new (o_bx (Ai.c a0) z z) fun b0 =>?_
 refine r_as z (nsr (r_fa fa50_0 z (r_ld 0 sc9 z z z (r_u (o_lenS underlying9 z) (r_fa fa50_1 z (r_ld 0 sc9 z z z (r_u (o_lenS underlying9 z) (r_bin z z (bI_add _ _) (r_as z (r_nil (x_seq (c_ret ?_))))))))))))
 subst hm
 refine ex_st (pk 1 []) ?_
 exact x_r1 z (rv_t z) le_ ⟨_,z,z,z,z⟩
def A9(a0:Am)(a1:Str):Bool×Am :=
 lt (AT a0 a1) fun r1=>if r1.2 then (r1.2,(⟨mdel a0.m a1,i64 (a0.bytes-(D0 r1.1))⟩:Am)) else (r1.2,a0)
theorem A9.ok{G R F}(b0_:Nat)(a0:Am)(g0_:Am.G)(a1:Str)(r:Bool×Am)(hm:A9 a0 a1=r):CO prog 36 [pt b0_ 0,vS a1] G R (Bk b0_ 138 [g0_.m,vI a0.bytes]::OwM vS Ai.v g0_.m a0.m::F)
  (Ret fun u R' L'=>u=vB r.1∧R'=R∧L'=Bk b0_ 138 [g0_.m,vI r.2.bytes]::OwM vS Ai.v g0_.m r.2.m::F):=by
 unfold A9 at hm
 refine co_ofN (N:=29) func36 z z ?_
 refine csr (r_as z (nsr (r_mv z (r_mv z ?_))))
 obtain ⟨r1,hr1,hm2⟩:=ltx hm
 refine r_c (s_w (o_call ca40 z (AT.ok b0_ a0 g0_ a1 _ hr1))) ?_
 refine r_mv z (r_ext z z (r_ext z z ?_))
 refine r_new (o_al ze50) fun b3 =>?_
 refine r_u0 (o_stn ag50 z z z z z z z) (r_as z (nssr (r_mv z (nsq ?_))))
 refine c_if (b:=r1.2) z (fun h4 =>?_) fun h4 =>?_
 rotate_left
 ·have hm5:=iff_ hm2 h4
  refine c_skip (x_seq (csr (r_mv z (r_as z (r_nil (x_seq (c_ret ?_)))))))
  subst hm5
  refine ex_st (pk 3 [1,2]) ?_
  exact x_r1 z (rv_t z) le_ ⟨_,z,z,z,z⟩
 have hm5:=ift hm2 h4
 refine csr (r_mv z (r_nc z (r_fa fa138_0 z (r_ld 1 sc136 z z z (r_mv z ?_)))))
 refine rl_st (fun _ h=>mv2 h) ?_
 refine r_u0 (o_del (kv:=vS) (vv:=Ai.v) (key:=a1) underlying136 (kok_S underlying9) z z z z) (nsq ?_)
 refine c_any mixed (effs:=[9]) (V:=[]) ?_
 refine stage_st (fun _ h=>mv2 h) ?_
 refine stn mk39_ [0,1,2,3,4,5,6,7,8] [9] [_,_,_,_,_,_,_,_,_] (q_mv z z z (q_u z z (o_nc z) (q_fa z z fa138_1 z (q_ld z z 0 sc3 z z z (q_u z z (o_ldn 2 (Ai.c r1.1) ag50 z z z z) (q_u z z (o_callq ca66 z (D0.ok r1.1 _ z)) (q_u z z (o_bin z z (bI_sub _ _)) (q_u z z (o_nc z) (q_fa z z fa138_1 z qn))))))))) ?_ (nxt z)
 refine ec (eo_u z (s_u (o_st sc3 z z z z z z)) le_ ?_) en
 refine stage z z z z mk39_ [] [] z z z qn en ?_
 intro _
 refine ex_sub (E':=[(6,vB r1.2)]) ⟨z,y_⟩ ?_
 refine x_seq (csr (r_mv z (r_as z (r_nil (x_seq (c_ret ?_))))))
 subst hm5
 refine ex_st (pk 3 [0,1]) ?_
 exact x_r1 z (rv_t z) le_ ⟨_,z,z,z,z⟩
def AA(a0:Ah):Int :=
 a0.kind
theorem AA.ok{G R F}(b0_:Nat)(a0:Ah)(g0_:Ah.G)(r:Int)(hm:AA a0=r):CO prog 67 [pt b0_ 0] G R (Bk b0_ 144 [vI a0.kind,g0_.a.1,g0_.t.1]::rO (Aq.op g0_.a.2) g0_.a.1 a0.a::rO (Ao.op g0_.t.2) g0_.t.1 a0.t::F)
  (Ret fun u R' L'=>u=vI r∧R'=R∧L'=Bk b0_ 144 [vI a0.kind,g0_.a.1,g0_.t.1]::rO (Aq.op g0_.a.2) g0_.a.1 a0.a::rO (Ao.op g0_.t.2) g0_.t.1 a0.t::F):=by
 obtain ⟨⟨pv1,g2⟩,⟨pv4,g5⟩⟩:=g0_
 unfold AA at hm
 refine co_ofN (N:=9) func67 z z ?_
 refine csr (r_as z (nssr (r_mv z (r_bin z z (bP_eqp underlying93) (nsq (c_ff z (c_skip (x_seq (csr (r_mv z (r_nc z (r_fa fa144_0 z (r_ld 0 sc3 z z z (r_as z (r_nil (x_seq (c_ret ?_)))))))))))))))))
 subst hm
 exact x_r1 z (rv_t z) le_ ⟨_,z,z,z,z⟩
def BK(a0:Aj)(a1:Str):Option (Int×Bool) :=
 if !((mget a0.at_ a1).isSome) then some (0,false) else (gi a0.slots ((mget a0.at_ a1).getD (0:Int))).bind fun x6=>some (x6.list,true)
theorem BK.ok{G R F}(b0_:Nat)(a0:Aj)(g0_:Aj.G)(a1:Str)(r:Int×Bool)(hm:BK a0 a1=some r):CO prog 160 [pt b0_ 0,vS a1] G R (Bk b0_ 237 (Aj.k a0 g0_)::OwS true 240 4 Av.c g0_.slots a0.slots::OwS true 3 1 eI g0_.free a0.free::OwM vS vI g0_.at_ a0.at_::OwS true 3 1 eI g0_.many a0.many::F)
  (Ret fun u R' L'=>u = .tuple #[vI r.1,vB r.2]∧R'=R∧L'=Bk b0_ 237 (Aj.k a0 g0_)::OwS true 240 4 Av.c g0_.slots a0.slots::OwS true 3 1 eI g0_.free a0.free::OwM vS vI g0_.at_ a0.at_::OwS true 3 1 eI g0_.many a0.many::F):=by
 unfold BK at hm
 refine co_ofN (N:=29) func160 z z ?_
 refine csr (r_as z (r_as z (nssr (r_mv z (r_bin z z (bP_eqp underlying191) (nsq (c_ff z (c_skip (x_seq (csr (r_mv z (r_nc z (r_fa fa237_3 z (r_ld 0 sc235 z z z (r_mv z ?_)))))))))))))))
 refine r_u (o_lk (kv:=vS) (vv:=vI) (key:=a1) (z0:=(0:Int)) 3 underlying235 (kok_S underlying9) kr z z z) (r_mv z (r_ext z z (r_ext z z (r_as z (r_as z (nssr (r_mv z ?_)))))))
 refine r_u (o_not z) (nsq ?_)
 refine c_if (b := !((mget a0.at_ a1).isSome)) z (fun h4 =>?_) fun h4 =>?_
 ·have hm5:=ift hm h4
  refine csr (r_as z (r_as z (r_nil (x_seq (c_ret ?_)))))
  obtain rfl:=si hm5
  exact x_r2 z (rv_t z) (rv_t z) le_ ⟨_,z,z,z,z⟩
 have hm5:=iff_ hm h4
 refine c_skip (x_seq (csr (r_mv z (r_nc z (r_fa fa237_1 z (r_ld 0 sc233 z z z (r_mv z ?_)))))))
 obtain ⟨x6,hx6,hm7⟩:=bs hm5
 refine r_u (o_ixO 1 underlying233 kr z z z hx6) (r_fa fa240_1 z (r_u (o_ldO 1 1 sc3 z z hx6 z z) (r_as z (r_as z (r_nil (x_seq (c_ret ?_)))))))
 obtain rfl:=si hm7
 exact x_r2 z (rv_t z) (rv_t z) le_ ⟨_,z,z,z,z⟩
def DL(a0:Aq)(a1:Str):Option Bool :=
 om a0.r (none) fun x3=>(BK x3 a1).bind fun r11=>some (r11.2&&decide (r11.1≤1))
theorem DL.ok{G R F}(b0_:Nat)(a0:Aq)(g0_:Aq.G)(a1:Str)(r:Bool)(hm:DL a0 a1=some r):CO prog 116 [pt b0_ 0,vS a1] G R (Bk b0_ 193 [vI a0.most,vI a0.target,g0_.r.1]::rO (Aj.op g0_.r.2) g0_.r.1 a0.r::F)
  (Ret fun u R' L'=>u=vB r∧R'=R∧L'=Bk b0_ 193 [vI a0.most,vI a0.target,g0_.r.1]::rO (Aj.op g0_.r.2) g0_.r.1 a0.r::F):=by
 obtain ⟨⟨pv1,g2⟩⟩:=g0_
 unfold DL at hm
 refine co_ofN (N:=23) func116 z z ?_
 refine csr (r_as z (nssr (r_mv z (r_bin z z (bP_eqp underlying141) (nsq (c_ff z (c_skip (x_seq (c_seq ?_)))))))))
 refine cd_st (fun _ h=>mv1 h) ?_
 refine cd_opt (fun ho5 =>?_) (fun x3 b4 ho5 =>?_)
 ·rintro rfl
  have hm6:=om_n hm ho5
  cases hm6
 rintro rfl
 have hm6:=om_s hm ho5
 refine cd_st (fun _ h=>st_star_o h) ?_
 refine c_reg (r_mv z (r_nc z (r_fa fa193_2 z (r_ld 5 sc191 z z z (r_mv z ?_)))))
 obtain ⟨r11,hr11,hm12⟩:=bs hm6
 refine r_c (s_w (o_call ca160 z (BK.ok b4 x3 g2 a1 _ hr11))) ?_
 refine r_mv z (r_ext z z (r_ext z z (r_as z (r_as z (nsr (r_mv z (r_mv z ?_)))))))
 refine r_s (s_gt z z fun g=>o_mv z) ?_
 refine r_s (s_gt z z fun g=>o_bin (evg z g) z (bI_le _ 1)) ?_
 refine r_u (o_and z z) (r_as z (r_nil (x_seq (c_ret ?_))))
 refine ex_st (fun _ h=>st_some (f:=Aj.op g2) (a:=x3) (st_star_f (A:=Aj.fl b4 x3 g2) h)) ?_
 refine ex_st (fun _ h=>st_back ho5 h) ?_
 obtain rfl:=si hm12
 refine ex_st (pk 2 [1,0]) ?_
 exact x_r1 z (rv_t z) le_ ⟨_,z,z,z,z⟩
def Dr(a0:Aj)(a1:Int):Option Aj :=
 (gi a0.slots a1).bind fun x4=>(gi a0.slots x4.prev).bind fun x6=>(gi (ls a0.slots x4.prev (⟨x6.key,x6.list,x6.prev,x4.next⟩:Av)) x4.next).bind fun x8=>(gi (ls (ls a0.slots x4.prev (⟨x6.key,x6.list,x6.prev,x4.next⟩:Av)) x4.next (⟨x8.key,x8.list,x4.prev,x8.next⟩:Av)) a1).bind fun x10=>(gi a0.many x10.list).bind fun x12=>some (⟨a0.lists,ls (ls a0.slots x4.prev (⟨x6.key,x6.list,x6.prev,x4.next⟩:Av)) x4.next (⟨x8.key,x8.list,x4.prev,x8.next⟩:Av),a0.free,a0.at_,ls a0.many x10.list (i64 (x12-1))⟩:Aj)
theorem Dr.ok{G R F}(b0_:Nat)(a0:Aj)(g0_:Aj.G)(a1:Int)(r:Aj)(hm:Dr a0 a1=some r):CO prog 161 [pt b0_ 0,vI a1] G R (Bk b0_ 237 (Aj.k a0 g0_)::OwS true 240 4 Av.c g0_.slots a0.slots::OwS true 3 1 eI g0_.free a0.free::OwM vS vI g0_.at_ a0.at_::OwS true 3 1 eI g0_.many a0.many::F)
  (Ret fun u R' L'=>u = .tuple #[]∧R'=R∧L'=Bk b0_ 237 (Aj.k r g0_)::OwS true 240 4 Av.c g0_.slots r.slots::OwS true 3 1 eI g0_.free r.free::OwM vS vI g0_.at_ r.at_::OwS true 3 1 eI g0_.many r.many::F):=by
 unfold Dr at hm
 refine co_ofN (N:=51) func161 z z ?_
 refine csr (r_mv z (r_nc z (r_fa fa237_1 z (r_ld 0 sc233 z z z (r_mv z ?_)))))
 obtain ⟨x4,hx4,hm5⟩:=bs hm
 refine r_u (o_ixO 1 underlying233 kr z z z hx4) (r_as z (r_nil (x_seq (c_seq ?_))))
 obtain ⟨x6,hx6,hm7⟩:=bs hm5
 obtain ⟨x8,hx8,hm9⟩:=bs hm7
 refine c_any mixed (effs:=[26,29]) (V:=[]) ?_
 refine stage_st (fun _ h=>mv1 h) ?_
 refine stn mk33_ [0,1,2,3,4,5,6,7,8,9,10,11,12,13,14,15,16,17,18,19,20,21,22,23,24,25] [26] [_,_,_,_,_,_,_,_,_,_,_,_,_,_,_,_,_,_,_,_,_,_,_,_,_,_] (q_mv z z z (q_u z z (o_nc z) (q_fa z z fa237_1 z (q_ld z z 1 sc233 z z z (q_mv z z z (q_u z z (o_nc z) (q_fa z z fa240_2 z (q_u z z (o_ldO 0 2 sc3 z z hx4 z z) (q_mv z z z (q_u z z (o_nc z) (q_fa z z fa237_1 z (q_ld z z 1 sc233 z z z (q_mv z z z (q_u z z (o_nc z) (q_fa z z fa240_3 z (q_u z z (o_ldO 0 3 sc3 z z hx4 z z) (q_mv z z z (q_u z z (o_nc z) (q_fa z z fa240_3 z (q_u z z (o_ldO 0 3 sc3 z z hx4 z z) (q_mv z z z (q_u z z (o_nc z) (q_fa z z fa240_2 z (q_u z z (o_ldO 0 2 sc3 z z hx4 z z) (q_u z z (o_ixO 0 underlying233 kr z z z hx6) (q_fa z z fa240_3 z qn)))))))))))))))))))))))))) ?_ (nxt z)
 refine ec (eo_u z (s_u (o_stO (c':=(⟨x6.key,x6.list,x6.prev,x4.next⟩:Av)) 3 sc3 z z z hx6 z z z)) le_ ?_) en
 refine stn mk33_ [27,28] [29] [_,_] (q_u z z (o_ixO 0 underlying233 kr z z z hx8) (q_fa z z fa240_2 z qn)) ?_ (nxt z)
 refine ec (eo_u z (s_u (o_stO (c':=(⟨x8.key,x8.list,x4.prev,x8.next⟩:Av)) 2 sc3 z z z hx8 z z z)) le_ ?_) en
 refine stage z z z z mk33_ [] [] z z z qn en ?_
 intro _
 refine ex_sub (E':=[(0,pt b0_ 0),(4,pt (sb g0_.slots) (so g0_.slots+a1.toNat*4))]) ⟨z,z,y_⟩ ?_
 refine x_seq ?_
 obtain ⟨x10,hx10,hm11⟩:=bs hm9
 obtain ⟨x12,hx12,hm13⟩:=bs hm11
 refine c_any mixed (effs:=[12]) (V:=[]) ?_
 refine stage_st (fun _ h=>mv4 h) ?_
 refine stn mk35_ [0,1,2,3,4,5,6,7,8,9,10,11] [12] [_,_,_,_,_,_,_,_,_,_,_,_] (q_mv z z z (q_u z z (o_nc z) (q_fa z z fa237_4 z (q_ld z z 2 sc234 z z z (q_mv z z z (q_u z z (o_nc z) (q_fa z z fa240_1 z (q_u z z (o_ldO 1 1 sc3 z z hx10 z z) (q_u z z (o_ixO 0 underlying234 kr z z z hx12) (q_u z z (o_ldO0 0 sc3 z z hx12 z z) (q_u z z (o_bin z z (bI_sub _ 1)) (q_u z z (o_ixO 0 underlying234 kr z z z hx12) qn)))))))))))) ?_ (nxt z)
 refine ec (eo_u z (s_u (o_stO0 (c':=i64 (x12-1)) sc3 z z z hx12 z z z)) le_ ?_) en
 refine stage z z z z mk35_ [] [] z z z qn en ?_
 intro _
 refine ex_sub (E':=[]) trivial ?_
 refine x_end ?_
 obtain rfl:=si hm13
 refine ex_st (pk 5 [2,1,3,4,0]) ?_
 exact x_r0 z le_ ⟨_,z,z,z,z⟩
def AV(a0:Aj)(a1:Str):Option (Bool×Aj) :=
 if (mget a0.at_ a1).isSome then (Dr a0 ((mget a0.at_ a1).getD (0:Int))).bind fun r6=>(gi r6.slots ((mget a0.at_ a1).getD (0:Int))).bind fun x8=>(apd 8 r6.free [((mget a0.at_ a1).getD (0:Int))]).bind fun l12=>some ((mget a0.at_ a1).isSome,(⟨r6.lists,ls r6.slots ((mget a0.at_ a1).getD (0:Int)) (⟨[],0,0,0⟩:Av),l12,mdel r6.at_ a1,r6.many⟩:Aj)) else some ((mget a0.at_ a1).isSome,a0)
theorem AV.ok{G R F}(b0_:Nat)(a0:Aj)(g0_:Aj.G)(a1:Str)(r:Bool×Aj)(hm:AV a0 a1=some r):CO prog 117 [pt b0_ 0,vS a1] G R (Bk b0_ 237 (Aj.k a0 g0_)::OwS true 240 4 Av.c g0_.slots a0.slots::OwS true 3 1 eI g0_.free a0.free::OwM vS vI g0_.at_ a0.at_::OwS true 3 1 eI g0_.many a0.many::F)
  (Ret fun u R' L'=>∃(q0:Aj.G),u=vB r.1∧R'=R∧L'=Bk b0_ 237 (Aj.k r.2 q0)::OwS true 240 4 Av.c q0.slots r.2.slots::OwS true 3 1 eI q0.free r.2.free::OwM vS vI q0.at_ r.2.at_::OwS true 3 1 eI q0.many r.2.many::F):=by
 unfold AV at hm
 refine co_ofN (N:=45) func117 z z ?_
 refine csr (r_as z (nssr (r_mv z (r_bin z z (bP_eqp underlying191) (nsq (c_ff z (c_skip (x_seq (csr (r_mv z (r_nc z (r_fa fa237_3 z (r_ld 0 sc235 z z z (r_mv z ?_))))))))))))))
 refine r_u (o_lk (kv:=vS) (vv:=vI) (key:=a1) (z0:=(0:Int)) 3 underlying235 (kok_S underlying9) kr z z z) (r_mv z (r_ext z z (r_ext z z (r_as z (r_as z (nssr (r_mv z (nsq ?_))))))))
 refine c_if (b:=(mget a0.at_ a1).isSome) z (fun h4 =>?_) fun h4 =>?_
 rotate_left
 ·have hm5:=iff_ hm h4
  refine c_skip (x_seq (csr (r_mv z (r_as z (r_nil (x_seq (c_ret ?_)))))))
  obtain rfl:=si hm5
  exact x_r1 z (rv_t z) le_ ⟨_,z,g0_,z,z,z⟩
 have hm5:=ift hm h4
 refine csr (r_mv z (r_mv z ?_))
 obtain ⟨r6,hr6,hm7⟩:=bs hm5
 refine r_c (s_w (o_call ca161 z (Dr.ok b0_ a0 g0_ _ _ hr6))) ?_
 refine nsr (r_mv z (r_nc z (r_fa fa237_3 z (r_ld 0 sc235 z z z (r_mv z ?_)))))
 refine rl_st (fun _ h=>mv3 h) ?_
 refine r_u0 (o_del (kv:=vS) (vv:=vI) (key:=a1) underlying235 (kok_S underlying9) z z z z) (nsr (r_mv z (r_nc z (r_fa fa237_1 z (r_ld 1 sc233 z z z (r_mv z ?_))))))
 refine r_u (o_bld [vS [],vI 0,vI 0,vI 0] z kr) ?_
 obtain ⟨x8,hx8,hm9⟩:=bs hm7
 refine r_u (o_ixO 2 underlying233 kr z z z hx8) ?_
 refine rl_st (fun _ h=>mv2 h) ?_
 refine r_u0 (o_stnO (c':=(⟨[],0,0,0⟩:Av)) ag240 z z z hx8 z z z) (r_nil (x_seq (c_reg (r_mv z (r_mv z (r_nc z (r_fa fa237_2 z (r_ld 2 sc234 z z z (r_mv z ?_)))))))))
 refine r_sw (s_w (o_bsl (en:=eI) (sz:=1) (e:=3) (cs:=[vI ((mget a0.at_ a1).getD (0:Int))]) (r:=[((mget a0.at_ a1).getD (0:Int))]) z kr z (by decide) z (fun _=>z))) ?_
 rintro v10 R _ _ ⟨rfl,rfl⟩
 obtain ⟨l12,hl12,hm13⟩:=bs hm9
 refine rl_st (fun _ h=>mv4 h) ?_
 refine r_sw (s_w (o_ap (sz:=1) (bytes:=8) 0 underlying234 z z z z z (by decide) (by decide) (fun _ _ _ h=>by simp at h;subst h;rfl) (fun _=>z) z z z z (Nat.succ_pos _) hl12)) ?_
 rintro v11 R _ _ ⟨rfl,rfl⟩
 refine r_nc z (r_fa fa237_2 z ?_)
 refine rl_st (fun _ h=>mv4 h) ?_
 refine r_u0 (ou_if (one_o 1 z) fun ho0=>o_st sc234 z z z ho0 z z) ?_
 refine nsr (r_mv z (r_as z (r_nil (x_seq (c_ret ?_)))))
 obtain rfl:=si hm13
 refine ex_st (pk 6 [0,3,1,4,5]) ?_
 exact x_r1 z (rv_t z) le_ ⟨_,z,(⟨g0_.slots,v11,g0_.at_,g0_.many⟩:Aj.G),z,z,z⟩
def DD(a0:Aq)(a1:Str):Option (Bool×Aq) :=
 (DL a0 a1).bind fun r3=>om a0.r (none) fun x5=>(AV x5 a1).bind fun r13=>some (r3,(⟨a0.most,a0.target,(some r13.2)⟩:Aq))
theorem DD.ok{G R F}(b0_:Nat)(a0:Aq)(g0_:Aq.G)(a1:Str)(r:Bool×Aq)(hm:DD a0 a1=some r):CO prog 68 [pt b0_ 0,vS a1] G R (Bk b0_ 193 [vI a0.most,vI a0.target,g0_.r.1]::rO (Aj.op g0_.r.2) g0_.r.1 a0.r::F)
  (Ret fun u R' L'=>∃(q0:Aq.G),u=vB r.1∧R'=R∧L'=Bk b0_ 193 [vI r.2.most,vI r.2.target,q0.r.1]::rO (Aj.op q0.r.2) q0.r.1 r.2.r::F):=by
 obtain ⟨⟨pv1,g2⟩⟩:=g0_
 unfold DD at hm
 refine co_ofN (N:=18) func68 z z ?_
 refine csr (r_as z (nsr (r_mv z (r_mv z ?_))))
 obtain ⟨r3,hr3,hm4⟩:=bs hm
 refine r_c (s_w (o_call ca116 z (DL.ok b0_ a0 (⟨(pv1,g2)⟩:Aq.G) a1 _ hr3))) ?_
 refine r_as z (nssr (r_mv z (r_bin z z (bP_nep underlying141) (nsq ?_))))
 refine c_tt z ?_
 refine cd_st (fun _ h=>mv1 h) ?_
 refine cd_opt (fun ho7 =>?_) (fun x5 b6 ho7 =>?_)
 ·rintro rfl
  have hm8:=om_n hm4 ho7
  cases hm8
 rintro rfl
 have hm8:=om_s hm4 ho7
 refine cd_st (fun _ h=>st_star_o h) ?_
 refine c_reg (r_mv z (r_nc z (r_fa fa193_2 z (r_ld 5 sc191 z z z (r_mv z ?_)))))
 obtain ⟨r13,hr13,hm19⟩:=bs hm8
 refine r_sw (s_w (o_call ca117 z (AV.ok b6 x5 g2 a1 _ hr13))) ?_
 rintro _ R _ _ ⟨g14,rfl,rfl,rfl⟩
 refine nsr (r_mv z (r_as z (r_nil (x_seq (c_ret ?_)))))
 refine ex_st (fun _ h=>st_some (f:=Aj.op g14) (a:=r13.2) (st_star_f (A:=Aj.fl b6 r13.2 g14) h)) ?_
 obtain rfl:=si hm19
 refine ex_st (pk 2 [1,0]) ?_
 exact x_r1 z (rv_t z) le_ ⟨_,z,(⟨(pt b6 0,g14)⟩:Aq.G),z,z,z⟩
def DO(a0:Ao)(a1:Str):Option (Bool×Ao) :=
 om a0.r (none) fun x6=>(AV x6 a1).bind fun r14=>some (r14.1,(⟨a0.most,a0.s,(some r14.2)⟩:Ao))
theorem DO.ok{G R F}(b0_:Nat)(a0:Ao)(g0_:Ao.G)(a1:Str)(r:Bool×Ao)(hm:DO a0 a1=some r):CO prog 69 [pt b0_ 0,vS a1] G R (Bk b0_ 196 [vI a0.most,g0_.s.1,g0_.r.1]::rO (An.op g0_.s.2) g0_.s.1 a0.s::rO (Aj.op g0_.r.2) g0_.r.1 a0.r::F)
  (Ret fun u R' L'=>∃(q0:Ao.G),u=vB r.1∧R'=R∧L'=Bk b0_ 196 [vI r.2.most,q0.s.1,q0.r.1]::rO (An.op q0.s.2) q0.s.1 r.2.s::rO (Aj.op q0.r.2) q0.r.1 r.2.r::F):=by
 obtain ⟨⟨pv1,g2⟩,⟨pv4,g5⟩⟩:=g0_
 unfold DO at hm
 refine co_ofN (N:=15) func69 z z ?_
 refine csr (r_as z (r_nil (x_seq (c_seq ?_))))
 refine cd_st (fun _ h=>mv2 h) ?_
 refine cd_opt (fun ho8 =>?_) (fun x6 b7 ho8 =>?_)
 ·rintro rfl
  have hm9:=om_n hm ho8
  cases hm9
 rintro rfl
 have hm9:=om_s hm ho8
 refine cd_st (fun _ h=>st_star_o h) ?_
 refine c_reg (r_mv z (r_bin z z (bP_nep underlying142) (r_mv z ?_)))
 refine r_s (s_y z z z (o_mv z)) ?_
 refine r_s (s_y z z z (o_nc z)) ?_
 refine r_s (s_y z z z (o_fa fa196_2 z)) ?_
 refine r_s (s_y z z z (o_ld 5 sc191 z z z)) ?_
 refine r_s (s_y z z z (o_mv z)) ?_
 obtain ⟨r14,hr14,hm20⟩:=bs hm9
 refine r_sw (s_yw z z z (o_call ca117 z (AV.ok b7 x6 g5 a1 _ hr14))) ?_
 rintro _ R _ _ ⟨g15,rfl,rfl,rfl⟩
 refine r_u (o_pt z z z) (r_as z (r_nil (x_seq (c_ret ?_))))
 refine ex_st (fun _ h=>st_some (f:=Aj.op g15) (a:=r14.2) (st_star_f (A:=Aj.fl b7 r14.2 g15) h)) ?_
 obtain rfl:=si hm20
 refine ex_st (pk 3 [1,2,0]) ?_
 exact x_r1 z (rv_t z) le_ ⟨_,z,(⟨(pv1,g2),(pt b7 0,g15)⟩:Ao.G),z,z,z⟩
def Bd(a0:Ah)(a1:Str):Option (Bool×Ah) :=
 if ((AA a0)==1) then om a0.a (none) fun x8=>(DD x8 a1).bind fun r15=>some (r15.1,(⟨a0.kind,(some r15.2),a0.t⟩:Ah)) else if ((AA a0)==2) then om a0.t (none) fun x23=>(DO x23 a1).bind fun r33=>some (r33.1,(⟨a0.kind,a0.a,(some r33.2)⟩:Ah)) else some (false,a0)
theorem Bd.ok{G R F}(b0_:Nat)(a0:Ah)(g0_:Ah.G)(a1:Str)(r:Bool×Ah)(hm:Bd a0 a1=some r):CO prog 37 [pt b0_ 0,vS a1] G R (Bk b0_ 144 [vI a0.kind,g0_.a.1,g0_.t.1]::rO (Aq.op g0_.a.2) g0_.a.1 a0.a::rO (Ao.op g0_.t.2) g0_.t.1 a0.t::F)
  (Ret fun u R' L'=>∃(q0:Ah.G),u=vB r.1∧R'=R∧L'=Bk b0_ 144 [vI r.2.kind,q0.a.1,q0.t.1]::rO (Aq.op q0.a.2) q0.a.1 r.2.a::rO (Ao.op q0.t.2) q0.t.1 r.2.t::F):=by
 obtain ⟨⟨pv1,g2⟩,⟨pv4,g5⟩⟩:=g0_
 unfold Bd at hm
 refine co_ofN (N:=23) func37 z z ?_
 refine csr (r_as z (nssr (r_mv z ?_)))
 refine r_c (s_w (o_call ca67 z (AA.ok b0_ a0 (⟨(pv1,g2),(pv4,g5)⟩:Ah.G) _ z))) ?_
 refine r_nil (x_seq (c_blk (csr (r_bin z z (bI_eq _ 1) (r_as z (nsq ?_))))))
 refine c_if (b:=((AA a0)==1)) z (fun h6 =>?_) fun h6 =>?_
 ·have hm7:=ift hm h6
  refine c_seq ?_
  refine cd_st (fun _ h=>mv1 h) ?_
  refine cd_opt (fun ho10 =>?_) (fun x8 b9 ho10 =>?_)
  ·rintro rfl
   have hm11:=om_n hm7 ho10
   cases hm11
  rintro rfl
  have hm11:=om_s hm7 ho10
  obtain ⟨⟨pv13,g14⟩⟩:=g2
  refine cd_st (fun _ h=>st_star_o h) ?_
  refine c_reg (r_mv z (r_nc z (r_fa fa144_1 z (r_ld 2 sc141 z z z (r_mv z ?_)))))
  obtain ⟨r15,hr15,hm20⟩:=bs hm11
  refine r_sw (s_w (o_call ca68 z (DD.ok b9 x8 (⟨(pv13,g14)⟩:Aq.G) a1 _ hr15))) ?_
  rintro _ R _ _ ⟨⟨⟨pv18,g19⟩⟩,rfl,rfl,rfl⟩
  refine r_as z (r_nil (x_seq (c_ret ?_)))
  refine ex_st (fun _ h=>st_some (f:=Aq.op (⟨(pv18,g19)⟩:Aq.G)) (a:=r15.2) (st_star_f (A:=Aq.fl b9 r15.2 (⟨(pv18,g19)⟩:Aq.G)) h)) ?_
  obtain rfl:=si hm20
  refine ex_st (pk 3 [1,0,2]) ?_
  exact x_r1 z (rv_t z) le_ ⟨_,z,(⟨(pt b9 0,(⟨(pv18,g19)⟩:Aq.G)),(pv4,g5)⟩:Ah.G),z,z,z⟩
 have hm7:=iff_ hm h6
 refine csr (r_bin z z (bI_eq _ 2) (r_as z (nsq ?_)))
 refine c_if (b:=((AA a0)==2)) z (fun h21 =>?_) fun h21 =>?_
 rotate_left
 ·have hm22:=iff_ hm7 h21
  refine c_skip (x_blk (x_seq (csr (r_as z (r_nil (x_seq (c_ret ?_)))))))
  obtain rfl:=si hm22
  exact x_r1 z (rv_t z) le_ ⟨_,z,(⟨(pv1,g2),(pv4,g5)⟩:Ah.G),z,z,z⟩
 have hm22:=ift hm7 h21
 refine c_seq ?_
 refine cd_st (fun _ h=>mv2 h) ?_
 refine cd_opt (fun ho25 =>?_) (fun x23 b24 ho25 =>?_)
 ·rintro rfl
  have hm26:=om_n hm22 ho25
  cases hm26
 rintro rfl
 have hm26:=om_s hm22 ho25
 obtain ⟨⟨pv28,g29⟩,⟨pv31,g32⟩⟩:=g5
 refine cd_st (fun _ h=>st_star_o h) ?_
 refine c_reg (r_mv z (r_nc z (r_fa fa144_2 z (r_ld 3 sc142 z z z (r_mv z ?_)))))
 obtain ⟨r33,hr33,hm41⟩:=bs hm26
 refine r_sw (s_w (o_call ca69 z (DO.ok b24 _ (⟨(pv28,g29),(pv31,g32)⟩:Ao.G) a1 _ hr33))) ?_
 rintro _ R _ _ ⟨⟨⟨pv36,g37⟩,⟨pv39,g40⟩⟩,rfl,rfl,rfl⟩
 refine r_as z (r_nil (x_seq (c_ret ?_)))
 refine ex_st (fun _ h=>st_some (f:=Ao.op (⟨(pv36,g37),(pv39,g40)⟩:Ao.G)) (a:=r33.2) (st_star_f (A:=Ao.fl b24 r33.2 (⟨(pv36,g37),(pv39,g40)⟩:Ao.G)) h)) ?_
 obtain rfl:=si hm41
 refine ex_st (pk 3 [1,2,0]) ?_
 exact x_r1 z (rv_t z) le_ ⟨_,z,(⟨(pv1,g2),(pt b24 0,(⟨(pv36,g37),(pv39,g40)⟩:Ao.G))⟩:Ah.G),z,z,z⟩
def DM(a0:Ao)(a1:Str):Option Bool :=
 om a0.r (none) fun x6=>(BK x6 a1).bind fun r14=>some r14.2
theorem DM.ok{G R F}(b0_:Nat)(a0:Ao)(g0_:Ao.G)(a1:Str)(r:Bool)(hm:DM a0 a1=some r):CO prog 118 [pt b0_ 0,vS a1] G R (Bk b0_ 196 [vI a0.most,g0_.s.1,g0_.r.1]::rO (An.op g0_.s.2) g0_.s.1 a0.s::rO (Aj.op g0_.r.2) g0_.r.1 a0.r::F)
  (Ret fun u R' L'=>u=vB r∧R'=R∧L'=Bk b0_ 196 [vI a0.most,g0_.s.1,g0_.r.1]::rO (An.op g0_.s.2) g0_.s.1 a0.s::rO (Aj.op g0_.r.2) g0_.r.1 a0.r::F):=by
 obtain ⟨⟨pv1,g2⟩,⟨pv4,g5⟩⟩:=g0_
 unfold DM at hm
 refine co_ofN (N:=19) func118 z z ?_
 refine csr (r_as z (nssr (r_mv z (r_bin z z (bP_eqp underlying142) (nsq (c_ff z (c_skip (x_seq (c_seq ?_)))))))))
 refine cd_st (fun _ h=>mv2 h) ?_
 refine cd_opt (fun ho8 =>?_) (fun x6 b7 ho8 =>?_)
 ·rintro rfl
  have hm9:=om_n hm ho8
  cases hm9
 rintro rfl
 have hm9:=om_s hm ho8
 refine cd_st (fun _ h=>st_star_o h) ?_
 refine c_reg (r_mv z (r_nc z (r_fa fa196_2 z (r_ld 5 sc191 z z z (r_mv z ?_)))))
 obtain ⟨r14,hr14,hm15⟩:=bs hm9
 refine r_c (s_w (o_call ca160 z (BK.ok b7 x6 g5 a1 _ hr14))) ?_
 refine r_mv z (r_ext z z (r_ext z z (r_as z (r_as z (nsr (r_mv z (r_as z (r_nil (x_seq (c_ret ?_))))))))))
 refine ex_st (fun _ h=>st_some (f:=Aj.op g5) (a:=x6) (st_star_f (A:=Aj.fl b7 x6 g5) h)) ?_
 refine ex_st (fun _ h=>st_back ho8 h) ?_
 obtain rfl:=si hm15
 refine ex_st (pk 3 [1,2,0]) ?_
 exact x_r1 z (rv_t z) le_ ⟨_,z,z,z,z⟩
def Db(a0:UInt64)(a1:Int):UInt64 :=
 (shWl a0 (((toW a1) &&& 63).toNat:Int)) ||| (shWr a0 ((64-((toW a1) &&& 63)).toNat:Int))
theorem Db.ok{G R F}(a0:UInt64)(a1:Int)(r:UInt64)(hm:Db a0 a1=r):CO prog 253 [vW a0,vI a1] G R (F)
  (Ret fun u R' L'=>u=vW r∧R'=R∧L'=F):=by
 unfold Db at hm
 refine co_ofN (N:=17) func253 z z ?_
 refine csr (r_as z (nsr (r_mv z (r_u (o_cv z (cIW underlying3 underlying134 a1)) (r_bin z z (bW_and _ 63) (r_as z (nsr (r_mv z (r_mv z (r_bin z z (bWW_shl a0 ((toW a1) &&& 63)) (r_mv z (r_mv z (r_bin z z (bW_sub 64 _) (r_bin z z (bWW_shr a0 (64-((toW a1) &&& 63))) (r_u (o_bin z z (bW_or _ _)) (r_as z (r_nil (x_seq (c_ret ?_)))))))))))))))))))
 subst hm
 exact x_r1 z (rv_t z) le_ ⟨_,z,z,z,z⟩
def Dv(a0:UInt64):UInt64 :=
 ((Db ((a0 ^^^ (shWr a0 ((32:UInt64).toNat:Int)))*11400714819323198485) 29)*11400714819323198485) ^^^ (shWr ((Db ((a0 ^^^ (shWr a0 ((32:UInt64).toNat:Int)))*11400714819323198485) 29)*11400714819323198485) ((32:UInt64).toNat:Int))
theorem Dv.ok{G R F}(a0:UInt64)(r:UInt64)(hm:Dv a0=r):CO prog 249 [vW a0] G R (F)
  (Ret fun u R' L'=>u=vW r∧R'=R∧L'=F):=by
 unfold Dv at hm
 refine co_ofN (N:=17) func249 z z ?_
 refine csr (r_as z (nsr (r_mv z (r_mv z (r_bin z z (bWW_shr a0 32) (r_bin z z (bW_xor a0 _) (r_as z (nsr (r_mv z (r_u (o_bin z z (bW_mul _ 11400714819323198485)) (r_as z (nsr (r_mv z ?_)))))))))))))
 refine r_u (o_callq ca253 z (Db.ok ((a0 ^^^ (shWr a0 ((32:UInt64).toNat:Int)))*11400714819323198485) 29 _ z)) (r_as z (nsr (r_mv z (r_u (o_bin z z (bW_mul _ 11400714819323198485)) (r_as z (nsr (r_mv z (r_mv z (r_u (o_bin z z (bWW_shr ((Db ((a0 ^^^ (shWr a0 ((32:UInt64).toNat:Int)))*11400714819323198485) 29)*11400714819323198485) 32)) (r_u (o_bin z z (bW_xor _ _)) (r_as z (r_nil (x_seq (c_ret ?_))))))))))))))
 subst hm
 exact x_r1 z (rv_t z) le_ ⟨_,z,z,z,z⟩
def D5(a1:Str):Nat→UInt64→Int→Option (UInt64)
 | 0,_,_=>none
 | k9+1,h_7,s_8=>if decide (s_8<(a1.length:Int)) then (gi a1 s_8).bind fun x14=>D5 a1 k9 ((h_7 ^^^ x14.toUInt64)*1099511628211) (i64 (s_8+1)) else some h_7
def Eh(a0:UInt64)(a1:Str):Option UInt64 :=
 if a1.length≤maxLen then Option.bind (D5 a1 (((a1.length:Int)-0).toNat+1) (14695981039346656037 ^^^ (Dv a0)) 0) fun p3=>some (Dv (p3 ^^^ (toW (a1.length:Int)))) else none
theorem Eh.ok{G R F}(a0:UInt64)(a1:Str)(r:UInt64)(hm:Eh a0 a1=some r):CO prog 240 [vW a0,vS a1] G R (F)
  (Ret fun u R' L'=>u=vW r∧R'=R∧L'=F):=by
 unfold Eh at hm
 refine co_ofN (N:=30) func240 z z ?_
 refine csr (r_as z (nsr (r_mv z ?_)))
 refine r_u (o_callq ca249 z (Dv.ok a0 _ z)) (r_bin z z (bW_xor 14695981039346656037 _) (r_as z (nssr (r_mv z ?_))))
 obtain ⟨h0,hm2⟩:=ig hm
 refine r_sw (s_w (o_sb underlying9 underlying131 underlying5 z h0)) ?_
 rintro v1 R _ _ ⟨rfl,rfl⟩
 refine r_u (o_lenO 0 underlying131 z z) (r_mv z (nsq ?_))
 obtain ⟨p3,hp4,hm5⟩:=bs hm2
 refine cd_join (E':=[(1,vS a1),(5,vW p3)]) (L':=OwS false 5 1 eY v1 a1::F) ?_ fun K6 =>?_
 ·refine x_seq (csr (r_mv z (r_mv z (r_u (o_lenS underlying9 z) (r_u (o_cv z (cIW underlying3 underlying22 (a1.length:Int))) (r_bin z z (bW_xor p3 _) ?_))))))
  refine r_u (o_callq ca249 z (Dv.ok (p3 ^^^ (toW (a1.length:Int))) _ z)) (r_as z (r_nil (x_seq (c_ret ?_))))
  obtain rfl:=si hm5
  refine ex_st (pk 1 []) ?_
  exact x_r1 z (rv_t z) le_ ⟨_,z,z,z,z⟩
 refine c_blk ?_
 refine cd_loop (M:=fun k9 (s:UInt64×Int)=>D5 a1 k9 s.1 s.2=some p3) (Ef:=fun (s:UInt64×Int)=>[(1,vS a1),(12,v1),(13,vI (a1.length:Int)),(5,vW s.1),(14,vI s.2)]) (Lf:=fun (s:UInt64×Int)=>OwS false 5 1 eY v1 a1::F) (((a1.length:Int)-0).toNat+1) (14695981039346656037 ^^^ (Dv a0),0) hp4 ⟨z,z,z,z,z,y_⟩ (fun _ h=>h) (fun _ h=>by cases h) fun k9 s hM11 =>?_
 obtain ⟨h_7,s_8⟩:=s
 have hm10:D5 a1 (k9+1) h_7 s_8=some p3:=hM11
 rw [D5] at hm10
 refine csr (r_bin z z (bI_lt _ _) (r_nil (x_seq (c_seq ?_))))
 refine c_if (b:=decide (s_8<(a1.length:Int))) z (fun h12 =>?_) fun h12 =>?_
 ·have hm13:=ift hm10 h12
  refine c_skip (x_seq (c_seq (c_blk (csr ?_))))
  obtain ⟨x14,hx14,hm15⟩:=bs hm13
  refine r_u (o_ixO 0 underlying131 kr z z z hx14) (r_u (o_ldO0 0 sc5 z z hx14 z z) (r_as z (r_nil (x_seq (c_reg (r_mv z (r_mv z (r_u (o_cv z (cYW underlying5 underlying22 x14)) (r_bin z z (bW_xor _ _) (r_bin z z (bW_mul _ 1099511628211) (r_as z (r_nil (x_blk (x_seq (c_reg (r_bin z z (bI_add _ 1) (r_mv z (r_nil ?_))))))))))))))))))
  exact x_lp ((h_7 ^^^ x14.toUInt64)*1099511628211,i64 (s_8+1)) hm15 ⟨z,z,z,z,z,y_⟩ id_
 have hm13:=iff_ hm10 h12
 refine c_exit (x_exit (ks':=_) z ?_)
 obtain rfl:=si hm13
 exact x_sub K6 ⟨z,z,y_⟩ id_
def D9(a0:UInt64)(a1:UInt64):UInt64×UInt64 :=
 ((((shWr a0 ((32:UInt64).toNat:Int))*(shWr a1 ((32:UInt64).toNat:Int)))+(shWr (((shWr a0 ((32:UInt64).toNat:Int))*(a1 &&& 4294967295))+(shWr ((a0 &&& 4294967295)*(a1 &&& 4294967295)) ((32:UInt64).toNat:Int))) ((32:UInt64).toNat:Int)))+(shWr (((((shWr a0 ((32:UInt64).toNat:Int))*(a1 &&& 4294967295))+(shWr ((a0 &&& 4294967295)*(a1 &&& 4294967295)) ((32:UInt64).toNat:Int))) &&& 4294967295)+((a0 &&& 4294967295)*(shWr a1 ((32:UInt64).toNat:Int)))) ((32:UInt64).toNat:Int)),a0*a1)
theorem D9.ok{G R F}(a0:UInt64)(a1:UInt64)(r:UInt64×UInt64)(hm:D9 a0 a1=r):CO prog 248 [vW a0,vW a1] G R (F)
  (Ret fun u R' L'=>u = .tuple #[vW r.1,vW r.2]∧R'=R∧L'=F):=by
 unfold D9 at hm
 refine co_ofN (N:=51) func248 z z ?_
 refine csr (r_as z (r_as z (nsr (r_mv z (r_bin z z (bW_and a0 4294967295) (r_as z (nsr (r_mv z (r_bin z z (bWW_shr a0 32) (r_as z (nsr (r_mv z (r_bin z z (bW_and a1 4294967295) (r_as z (nsr (r_mv z (r_bin z z (bWW_shr a1 32) (r_as z (nsr (r_mv z (r_mv z (r_bin z z (bW_mul _ _) (r_as z (nsr (r_mv z (r_mv z (r_bin z z (bW_mul _ _) (r_mv z (r_bin z z (bWW_shr ((a0 &&& 4294967295)*(a1 &&& 4294967295)) 32) (r_u (o_bin z z (bW_add _ _)) (r_as z (nsr (r_mv z (r_u (o_bin z z (bW_and _ 4294967295)) (r_as z (nsr ?_))))))))))))))))))))))))))))))))))))
 refine r_mv z (r_u (o_bin z z (bWW_shr (((shWr a0 ((32:UInt64).toNat:Int))*(a1 &&& 4294967295))+(shWr ((a0 &&& 4294967295)*(a1 &&& 4294967295)) ((32:UInt64).toNat:Int))) 32)) (r_as z (nsr (r_mv z (r_mv z (r_mv z (r_bin z z (bW_mul _ _) (r_u (o_bin z z (bW_add _ _)) (r_as z (nsr ?_))))))))))
 refine r_mv z (r_mv z (r_bin z z (bW_mul _ _) (r_mv z (r_u (o_bin z z (bW_add _ _)) (r_mv z (r_u (o_bin z z (bWW_shr (((((shWr a0 ((32:UInt64).toNat:Int))*(a1 &&& 4294967295))+(shWr ((a0 &&& 4294967295)*(a1 &&& 4294967295)) ((32:UInt64).toNat:Int))) &&& 4294967295)+((a0 &&& 4294967295)*(shWr a1 ((32:UInt64).toNat:Int)))) 32)) (r_u (o_bin z z (bW_add _ _)) (r_as z (nsr (r_mv z (r_mv z (r_bin z z (bW_mul a0 a1) (r_as z (r_nil (x_seq (c_ret ?_))))))))))))))))
 subst hm
 exact x_r2 z (rv_t z) (rv_t z) le_ ⟨_,z,z,z,z⟩
def D6(a0:UInt64)(a1:Int)(a2:Int):Int :=
 if decide (a2<1) then 0 else lt (D9 (Dv (a0+((toW a1)*11400714819323198485))) (toW a2)) fun r2=>i64 (r2.1.toNat:Int)
theorem D6.ok{G R F}(a0:UInt64)(a1:Int)(a2:Int)(r:Int)(hm:D6 a0 a1 a2=r):CO prog 239 [vW a0,vI a1,vI a2] G R (F)
  (Ret fun u R' L'=>u=vI r∧R'=R∧L'=F):=by
 unfold D6 at hm
 refine co_ofN (N:=25) func239 z z ?_
 refine csr (r_as z (nssr (r_mv z (r_bin z z (bI_lt a2 1) (nsq ?_)))))
 refine c_if (b:=decide (a2<1)) z (fun h0 =>?_) fun h0 =>?_
 ·have hm1:=ift hm h0
  refine csr (r_as z (r_nil (x_seq (c_ret ?_))))
  subst hm1
  exact x_r1 z (rv_t z) le_ ⟨_,z,z,z,z⟩
 have hm1:=iff_ hm h0
 refine c_skip (x_seq (csr (r_mv z (r_mv z (r_u (o_cv z (cIW underlying3 underlying22 a1)) (r_bin z z (bW_mul _ 11400714819323198485) (r_bin z z (bW_add a0 _) ?_)))))))
 refine r_u (o_callq ca249 z (Dv.ok (a0+((toW a1)*11400714819323198485)) _ z)) (r_mv z (r_u (o_cv z (cIW underlying3 underlying22 a2)) ?_))
 obtain ⟨r2,hr2,hm3⟩:=ltx hm1
 refine r_u (o_callq ca248 z (D9.ok _ _ _ hr2)) (r_mv z (r_ext z z (r_ext z z (r_as z (r_as z (nsr (r_mv z (r_u (o_cv z (cWI underlying22 underlying3 r2.1)) (r_as z (r_nil (x_seq (c_ret ?_))))))))))))
 subst hm3
 exact x_r1 z (rv_t z) le_ ⟨_,z,z,z,z⟩
def Bw(a0:An)(a1:Str)(a2:Int):Option Int :=
 (Eh a0.seed a1).bind fun r2=>some (D6 r2 a2 a0.wide)
theorem Bw.ok{G R F}(b0_:Nat)(a0:An)(g0_:An.G)(a1:Str)(a2:Int)(r:Int)(hm:Bw a0 a1 a2=some r):CO prog 207 [pt b0_ 0,vS a1,vI a2] G R (Bk b0_ 250 (An.k a0 g0_)::OwL (OwS false 5 1 eY) [g0_.rows.1,g0_.rows.2.1,g0_.rows.2.2.1,g0_.rows.2.2.2] a0.rows::OwS true 4 1 eB g0_.door a0.door::F)
  (Ret fun u R' L'=>u=vI r∧R'=R∧L'=Bk b0_ 250 (An.k a0 g0_)::OwL (OwS false 5 1 eY) [g0_.rows.1,g0_.rows.2.1,g0_.rows.2.2.1,g0_.rows.2.2.2] a0.rows::OwS true 4 1 eB g0_.door a0.door::F):=by
 unfold Bw at hm
 refine co_ofN (N:=19) func207 z z ?_
 refine csr (r_as z (r_nil (x_seq (c_seq ?_))))
 obtain ⟨r2,hr2,hm3⟩:=bs hm
 refine c_any mixed (effs:=[]) (V:=[]) ?_
 refine stn [0,1,3,7,0,31,0,0,128,384,896,2047,4095] [0,1,2,3,4,5,6,7,8,9,10,11,12] [] [_,_,_,_,_,_,_,_,_,_,_,_,_] (q_mv z z z (q_u z z (o_nc z) (q_fa z z fa250_1 z (q_ld z z 0 sc22 z z z (q_mv z z z (q_u z z (o_callq ca240 z (Eh.ok _ a1 _ hr2)) (q_mv z z z (q_mv z z z (q_u z z (o_nc z) (q_fa z z fa250_0 z (q_ld z z 0 sc3 z z z (q_u z z (o_callq ca239 z (D6.ok r2 a2 a0.wide _ z)) (q_u z z (o_as z) qn))))))))))))) en ?_
 intro _
 refine ex_sub (E':=[(6,vI (D6 r2 a2 a0.wide))]) ⟨z,y_⟩ ?_
 refine x_seq (c_ret ?_)
 obtain rfl:=si hm3
 exact x_r1 z (rv_t z) le_ ⟨_,z,z,z,z⟩
def BR(a0:An)(a1:Str):Nat→UInt8→Int→Option (UInt8)
 | 0,_,_=>none
 | k8+1,n_6,s_7=>if decide (s_7<4) then (gi a0.rows s_7).bind fun y13=>(Bw a0 a1 s_7).bind fun r16=>(gi y13 r16).bind fun x18=>BR a0 a1 k8 (if x18<n_6 then x18 else n_6) (i64 (s_7+1)) else some n_6
def BY(a0:An)(a1:Str):Option UInt8 :=
 Option.bind (BR a0 a1 5 15 0) fun p2=>some p2
theorem BY.ok{G R F}(b0_:Nat)(a0:An)(g0_:An.G)(a1:Str)(r:UInt8)(hm:BY a0 a1=some r):CO prog 208 [pt b0_ 0,vS a1] G R (Bk b0_ 250 (An.k a0 g0_)::OwL (OwS false 5 1 eY) [g0_.rows.1,g0_.rows.2.1,g0_.rows.2.2.1,g0_.rows.2.2.2] a0.rows::OwS true 4 1 eB g0_.door a0.door::F)
  (Ret fun u R' L'=>u=vY r∧R'=R∧L'=Bk b0_ 250 (An.k a0 g0_)::OwL (OwS false 5 1 eY) [g0_.rows.1,g0_.rows.2.1,g0_.rows.2.2.1,g0_.rows.2.2.2] a0.rows::OwS true 4 1 eB g0_.door a0.door::F):=by
 unfold BY at hm
 refine co_ofN (N:=26) func208 z z ?_
 refine csr (r_as z (nsr (r_as z (nssr (r_mv z (nsq ?_))))))
 obtain ⟨p2,hp3,hm4⟩:=bs hm
 refine cd_join (E':=[(5,vY p2)]) (L':=Bk b0_ 250 (An.k a0 g0_)::OwL (OwS false 5 1 eY) [g0_.rows.1,g0_.rows.2.1,g0_.rows.2.2.1,g0_.rows.2.2.2] a0.rows::OwS true 4 1 eB g0_.door a0.door::F) ?_ fun K5 =>?_
 ·refine x_seq (csr (r_mv z (r_as z (r_nil (x_seq (c_ret ?_))))))
  obtain rfl:=si hm4
  exact x_r1 z (rv_t z) le_ ⟨_,z,z,z,z⟩
 refine c_blk ?_
 refine cd_loop (M:=fun k8 (s:UInt8×Int)=>BR a0 a1 k8 s.1 s.2=some p2) (Ef:=fun (s:UInt8×Int)=>[(0,pt b0_ 0),(1,vS a1),(5,vY s.1),(7,vI s.2)]) (Lf:=fun (s:UInt8×Int)=>Bk b0_ 250 (An.k a0 g0_)::OwL (OwS false 5 1 eY) [g0_.rows.1,g0_.rows.2.1,g0_.rows.2.2.1,g0_.rows.2.2.2] a0.rows::OwS true 4 1 eB g0_.door a0.door::F) 5 (15,0) hp3 ⟨z,z,z,z,y_⟩ (fun _ h=>h) (fun _ h=>by cases h) fun k8 s hM10 =>?_
 obtain ⟨n_6,s_7⟩:=s
 have hm9:BR a0 a1 (k8+1) n_6 s_7=some p2:=hM10
 rw [BR] at hm9
 refine csr (r_bin z z (bI_lt _ 4) (r_nil (x_seq (c_seq ?_))))
 refine c_if (b:=decide (s_7<4)) z (fun h11 =>?_) fun h11 =>?_
 rotate_left
 ·have hm12:=iff_ hm9 h11
  refine c_exit (x_exit (ks':=_) z ?_)
  obtain rfl:=si hm12
  exact x_sub K5 ⟨z,y_⟩ id_
 have hm12:=ift hm9 h11
 refine c_skip (x_seq (c_seq (c_blk (csr (r_mv z (r_as z (nsq ?_)))))))
 obtain ⟨y13,hy13,hm15⟩:=bs hm12
 refine cd_ex (fun w h=>st_peek 1 hy13 z w h) fun u14 hu14 =>?_
 obtain ⟨r16,hr16,hm17⟩:=bs hm15
 obtain ⟨x18,hx18,hm19⟩:=bs hm17
 refine c_any mixed (effs:=[]) (V:=[]) ?_
 refine stn [0,0,0,2,10,30,62,0,0,0,896,2046,4094,8191,16383] [0,1,2,3,4,5,6,7,8,9,10,11,12,13,14] [] [_,_,_,_,_,_,_,_,_,_,_,_,_,_,_] (q_mv z z z (q_mv z z z (q_mv z z z (q_u z z (o_nc z) (q_fa z z fa250_2 z (q_u z z (o_ixA (sz:=1) underlying248 kr z z (gi_some hu14).1) (q_u z z (o_ldA (o:=2) (n:=4) 0 sc131 z z hu14) (q_mv z z z (q_mv z z z (q_mv z z z (q_u z z (o_callqP ca207 z (Bw.ok b0_ a0 g0_ a1 _ _ hr16) id_ id_) (q_u z z (o_ixK (kn_in 1 z hu14 hy13) underlying131 kr z z hx18) (q_u z z (o_ldK (kn_in 1 z hu14 hy13) 0 sc5 z hx18 z z) (q_u z z (o_minY z z) (q_u z z (o_as z) qn))))))))))))))) en ?_
 intro _
 refine ex_sub (E':=[(0,pt b0_ 0),(1,vS a1),(5,vY (if x18<n_6 then x18 else n_6)),(7,vI s_7)]) ⟨z,z,z,z,y_⟩ ?_
 refine x_blk (x_seq (c_reg (r_bin z z (bI_add _ 1) (r_mv z (r_nil ?_)))))
 exact x_lp ((if x18<n_6 then x18 else n_6),i64 (s_7+1)) hm19 ⟨z,z,z,z,y_⟩ id_
end Go.Proofs.YtpanhdnglicknaaGreat
