import Derived.Test.YtpanhdnglicknaaGreatW3
import Derived.Test.YtpanhdnglicknaaGreatFacts
import Derived.Test.YtpanhdnglicknaaGreatHwZ
import Derived.Test.YtpanhdnglicknaaGreatHwW
import Derived.Test.YtpanhdnglicknaaGreatHw8
set_option linter.unusedVariables false
set_option linter.unusedSectionVars false
set_option linter.unusedSimpArgs false
set_option maxRecDepth 100000
set_option maxHeartbeats 4000000
namespace Go.Proofs.YtpanhdnglicknaaGreat
open Go Go.Proofs.YtpanhdnglicknaaGreat.Hw
def Cs(a0:List UInt32)(a1:Int)(a2:Int)(a3:Int)(a4:Int)(a5:UInt32)(a6:UInt32):Option (List UInt32) :=
 (gi (nn 16 a0) a1).bind fun x0=>(gi (nn 16 a0) a2).bind fun x2=>lt (ls (nn 16 a0) a1 (x0+(x2+a5))) fun y4=>(gi (nn 16 y4) a4).bind fun x6=>(gi (nn 16 y4) a1).bind fun x8=>lt (ls (nn 16 y4) a4 (A7 (x6 ^^^ x8) (-16))) fun y10=>(gi (nn 16 y10) a3).bind fun x12=>(gi (nn 16 y10) a4).bind fun x14=>lt (ls (nn 16 y10) a3 (x12+x14)) fun y16=>(gi (nn 16 y16) a2).bind fun x18=>(gi (nn 16 y16) a3).bind fun x20=>lt (ls (nn 16 y16) a2 (A7 (x18 ^^^ x20) (-12))) fun y22=>(gi (nn 16 y22) a1).bind fun x24=>(gi (nn 16 y22) a2).bind fun x26=>lt (ls (nn 16 y22) a1 (x24+(x26+a6))) fun y28=>(gi (nn 16 y28) a4).bind fun x30=>(gi (nn 16 y28) a1).bind fun x32=>lt (ls (nn 16 y28) a4 (A7 (x30 ^^^ x32) (-8))) fun y34=>(gi (nn 16 y34) a3).bind fun x36=>(gi (nn 16 y34) a4).bind fun x38=>lt (ls (nn 16 y34) a3 (x36+x38)) fun y40=>(gi (nn 16 y40) a2).bind fun x42=>(gi (nn 16 y40) a3).bind fun x44=>lt (ls (nn 16 y40) a2 (A7 (x42 ^^^ x44) (-7))) fun y46=>some y46
theorem Cs.ok{G R F}(b0_:Nat)(a0:List UInt32)(a1:Int)(a2:Int)(a3:Int)(a4:Int)(a5:UInt32)(a6:UInt32)(r:List UInt32)(hm:Cs a0 a1 a2 a3 a4 a5 a6=some r):CO Tryz.prog 114 [pt b0_ 0,vI a1,vI a2,vI a3,vI a4,vD a5,vD a6] G R (Bk b0_ 183 [vD (a0.getD 0 default),vD (a0.getD 1 default),vD (a0.getD 2 default),vD (a0.getD 3 default),vD (a0.getD 4 default),vD (a0.getD 5 default),vD (a0.getD 6 default),vD (a0.getD 7 default),vD (a0.getD 8 default),vD (a0.getD 9 default),vD (a0.getD 10 default),vD (a0.getD 11 default),vD (a0.getD 12 default),vD (a0.getD 13 default),vD (a0.getD 14 default),vD (a0.getD 15 default)]::F)
  (Ret fun u R' L'=>u = .tuple #[]∧R'=R∧L'=Bk b0_ 183 [vD (r.getD 0 default),vD (r.getD 1 default),vD (r.getD 2 default),vD (r.getD 3 default),vD (r.getD 4 default),vD (r.getD 5 default),vD (r.getD 6 default),vD (r.getD 7 default),vD (r.getD 8 default),vD (r.getD 9 default),vD (r.getD 10 default),vD (r.getD 11 default),vD (r.getD 12 default),vD (r.getD 13 default),vD (r.getD 14 default),vD (r.getD 15 default)]::F):=by
 unfold Cs at hm
 refine co_ofN (N:=134) Tryz.func114 z z ?_
 refine c_seq ?_
 obtain ⟨x0,hx0,hm1⟩:=bs hm
 obtain ⟨x2,hx2,hm3⟩:=bs hm1
 obtain ⟨y4,hy4,hm5⟩:=ltx hm3
 refine c_any mixed (effs:=[15]) (V:=[]) ?_
 refine stn mk7_ [0,1,2,3,4,5,6,7,8,9,10,11,12,13,14] [15] [_,_,_,_,_,_,_,_,_,_,_,_,_,_,_] (q_mv z z z (q_mv z z z (q_u z z (o_nc z) (q_u z z (o_ixA (sz:=1) (n:=16) Tryz.underlying183 (fun _=>by kernel_rfl) z z (gi_nn hx0)) (q_u z z (o_ldV (f:=vD) 0 hx0 sc128 z z) (q_mv z z z (q_mv z z z (q_u z z (o_nc z) (q_u z z (o_ixA (sz:=1) (n:=16) Tryz.underlying183 (fun _=>by kernel_rfl) z z (gi_nn hx2)) (q_u z z (o_ldV (f:=vD) 0 hx2 sc128 z z) (q_mv z z z (q_u z z (o_bin z z (bD_add x2 a5)) (q_u z z (o_bin z z (bD_add x0 _)) (q_u z z (o_nc z) (q_u z z (o_ixA (sz:=1) (n:=16) Tryz.underlying183 (fun _=>by kernel_rfl) z z (gi_nn hx0)) qn))))))))))))))) ?_ (nxt z)
 refine ec (eo_u z (s_u (o_stV 16 (f:=vD) (u:=x0+(x2+a5)) hy4 hx0 sc128 z z z z)) le_ ?_) en
 refine stage z z z z mk7_ [] [] z z z qn en ?_
 intro _
 refine ex_sub (E':=[(0,pt b0_ 0),(1,vI a1),(2,vI a2),(3,vI a3),(4,vI a4),(6,vD a6)]) ⟨z,z,z,z,z,z,trivial⟩ ?_
 refine x_seq (c_seq ?_)
 obtain ⟨x6,hx6,hm7⟩:=bs hm5
 obtain ⟨x8,hx8,hm9⟩:=bs hm7
 obtain ⟨y10,hy10,hm11⟩:=ltx hm9
 refine c_any mixed (effs:=[16]) (V:=[]) ?_
 refine stn mk2_ [0,1,2,3,4,5,6,7,8,9,10,11,12,13,14,15] [16] [_,_,_,_,_,_,_,_,_,_,_,_,_,_,_,_] (q_mv z z z (q_mv z z z (q_mv z z z (q_mv z z z (q_u z z (o_nc z) (q_u z z (o_ixA (sz:=1) (n:=16) Tryz.underlying183 (fun _=>by kernel_rfl) z z (gi_nn hx6)) (q_u z z (o_ldV (f:=vD) 0 hx6 sc128 z z) (q_mv z z z (q_mv z z z (q_u z z (o_nc z) (q_u z z (o_ixA (sz:=1) (n:=16) Tryz.underlying183 (fun _=>by kernel_rfl) z z (gi_nn hx8)) (q_u z z (o_ldV (f:=vD) 0 hx8 sc128 z z) (q_u z z (o_bin z z (bD_xor x6 x8)) (q_u z z (o_callq ca159 z (A7.ok (x6 ^^^ x8) (-16) _ z)) (q_u z z (o_nc z) (q_u z z (o_ixA (sz:=1) (n:=16) Tryz.underlying183 (fun _=>by kernel_rfl) z z (gi_nn hx6)) qn)))))))))))))))) ?_ (nxt z)
 refine ec (eo_u z (s_u (o_stV 16 (f:=vD) (u:=(A7 (x6 ^^^ x8) (-16))) hy10 hx6 sc128 z z z z)) le_ ?_) en
 refine stage z z z z mk2_ [] [] z z z qn en ?_
 intro _
 refine ex_sub (E':=[(0,pt b0_ 0),(1,vI a1),(2,vI a2),(3,vI a3),(4,vI a4),(6,vD a6)]) ⟨z,z,z,z,z,z,trivial⟩ ?_
 refine x_seq (c_seq ?_)
 obtain ⟨x12,hx12,hm13⟩:=bs hm11
 obtain ⟨x14,hx14,hm15⟩:=bs hm13
 obtain ⟨y16,hy16,hm17⟩:=ltx hm15
 refine c_any mixed (effs:=[13]) (V:=[]) ?_
 refine stn mk8_ [0,1,2,3,4,5,6,7,8,9,10,11,12] [13] [_,_,_,_,_,_,_,_,_,_,_,_,_] (q_mv z z z (q_mv z z z (q_u z z (o_nc z) (q_u z z (o_ixA (sz:=1) (n:=16) Tryz.underlying183 (fun _=>by kernel_rfl) z z (gi_nn hx12)) (q_u z z (o_ldV (f:=vD) 0 hx12 sc128 z z) (q_mv z z z (q_mv z z z (q_u z z (o_nc z) (q_u z z (o_ixA (sz:=1) (n:=16) Tryz.underlying183 (fun _=>by kernel_rfl) z z (gi_nn hx14)) (q_u z z (o_ldV (f:=vD) 0 hx14 sc128 z z) (q_u z z (o_bin z z (bD_add _ _)) (q_u z z (o_nc z) (q_u z z (o_ixA (sz:=1) (n:=16) Tryz.underlying183 (fun _=>by kernel_rfl) z z (gi_nn hx12)) qn))))))))))))) ?_ (nxt z)
 refine ec (eo_u z (s_u (o_stV 16 (f:=vD) (u:=x12+x14) hy16 hx12 sc128 z z z z)) le_ ?_) en
 refine stage z z z z mk8_ [] [] z z z qn en ?_
 intro _
 refine ex_sub (E':=[(0,pt b0_ 0),(1,vI a1),(2,vI a2),(3,vI a3),(4,vI a4),(6,vD a6)]) ⟨z,z,z,z,z,z,trivial⟩ ?_
 refine x_seq (c_seq ?_)
 obtain ⟨x18,hx18,hm19⟩:=bs hm17
 obtain ⟨x20,hx20,hm21⟩:=bs hm19
 obtain ⟨y22,hy22,hm23⟩:=ltx hm21
 refine c_any mixed (effs:=[16]) (V:=[]) ?_
 refine stn mk2_ [0,1,2,3,4,5,6,7,8,9,10,11,12,13,14,15] [16] [_,_,_,_,_,_,_,_,_,_,_,_,_,_,_,_] (q_mv z z z (q_mv z z z (q_mv z z z (q_mv z z z (q_u z z (o_nc z) (q_u z z (o_ixA (sz:=1) (n:=16) Tryz.underlying183 (fun _=>by kernel_rfl) z z (gi_nn hx18)) (q_u z z (o_ldV (f:=vD) 0 hx18 sc128 z z) (q_mv z z z (q_mv z z z (q_u z z (o_nc z) (q_u z z (o_ixA (sz:=1) (n:=16) Tryz.underlying183 (fun _=>by kernel_rfl) z z (gi_nn hx20)) (q_u z z (o_ldV (f:=vD) 0 hx20 sc128 z z) (q_u z z (o_bin z z (bD_xor _ _)) (q_u z z (o_callq ca159 z (A7.ok (x18 ^^^ x20) (-12) _ z)) (q_u z z (o_nc z) (q_u z z (o_ixA (sz:=1) (n:=16) Tryz.underlying183 (fun _=>by kernel_rfl) z z (gi_nn hx18)) qn)))))))))))))))) ?_ (nxt z)
 refine ec (eo_u z (s_u (o_stV 16 (f:=vD) (u:=(A7 (x18 ^^^ x20) (-12))) hy22 hx18 sc128 z z z z)) le_ ?_) en
 refine stage z z z z mk2_ [] [] z z z qn en ?_
 intro _
 refine ex_sub (E':=[(0,pt b0_ 0),(1,vI a1),(2,vI a2),(3,vI a3),(4,vI a4),(6,vD a6)]) ⟨z,z,z,z,z,z,trivial⟩ ?_
 refine x_seq (c_seq ?_)
 obtain ⟨x24,hx24,hm25⟩:=bs hm23
 obtain ⟨x26,hx26,hm27⟩:=bs hm25
 obtain ⟨y28,hy28,hm29⟩:=ltx hm27
 refine c_any mixed (effs:=[15]) (V:=[]) ?_
 refine stn mk7_ [0,1,2,3,4,5,6,7,8,9,10,11,12,13,14] [15] [_,_,_,_,_,_,_,_,_,_,_,_,_,_,_] (q_mv z z z (q_mv z z z (q_u z z (o_nc z) (q_u z z (o_ixA (sz:=1) (n:=16) Tryz.underlying183 (fun _=>by kernel_rfl) z z (gi_nn hx24)) (q_u z z (o_ldV (f:=vD) 0 hx24 sc128 z z) (q_mv z z z (q_mv z z z (q_u z z (o_nc z) (q_u z z (o_ixA (sz:=1) (n:=16) Tryz.underlying183 (fun _=>by kernel_rfl) z z (gi_nn hx26)) (q_u z z (o_ldV (f:=vD) 0 hx26 sc128 z z) (q_mv z z z (q_u z z (o_bin z z (bD_add _ a6)) (q_u z z (o_bin z z (bD_add _ _)) (q_u z z (o_nc z) (q_u z z (o_ixA (sz:=1) (n:=16) Tryz.underlying183 (fun _=>by kernel_rfl) z z (gi_nn hx24)) qn))))))))))))))) ?_ (nxt z)
 refine ec (eo_u z (s_u (o_stV 16 (f:=vD) (u:=x24+(x26+a6)) hy28 hx24 sc128 z z z z)) le_ ?_) en
 refine stage z z z z mk7_ [] [] z z z qn en ?_
 intro _
 refine ex_sub (E':=[(0,pt b0_ 0),(1,vI a1),(2,vI a2),(3,vI a3),(4,vI a4)]) ⟨z,z,z,z,z,trivial⟩ ?_
 refine x_seq (c_seq ?_)
 obtain ⟨x30,hx30,hm31⟩:=bs hm29
 obtain ⟨x32,hx32,hm33⟩:=bs hm31
 obtain ⟨y34,hy34,hm35⟩:=ltx hm33
 refine c_any mixed (effs:=[16]) (V:=[]) ?_
 refine stn mk2_ [0,1,2,3,4,5,6,7,8,9,10,11,12,13,14,15] [16] [_,_,_,_,_,_,_,_,_,_,_,_,_,_,_,_] (q_mv z z z (q_mv z z z (q_mv z z z (q_mv z z z (q_u z z (o_nc z) (q_u z z (o_ixA (sz:=1) (n:=16) Tryz.underlying183 (fun _=>by kernel_rfl) z z (gi_nn hx30)) (q_u z z (o_ldV (f:=vD) 0 hx30 sc128 z z) (q_mv z z z (q_mv z z z (q_u z z (o_nc z) (q_u z z (o_ixA (sz:=1) (n:=16) Tryz.underlying183 (fun _=>by kernel_rfl) z z (gi_nn hx32)) (q_u z z (o_ldV (f:=vD) 0 hx32 sc128 z z) (q_u z z (o_bin z z (bD_xor _ _)) (q_u z z (o_callq ca159 z (A7.ok (x30 ^^^ x32) (-8) _ z)) (q_u z z (o_nc z) (q_u z z (o_ixA (sz:=1) (n:=16) Tryz.underlying183 (fun _=>by kernel_rfl) z z (gi_nn hx30)) qn)))))))))))))))) ?_ (nxt z)
 refine ec (eo_u z (s_u (o_stV 16 (f:=vD) (u:=(A7 (x30 ^^^ x32) (-8))) hy34 hx30 sc128 z z z z)) le_ ?_) en
 refine stage z z z z mk2_ [] [] z z z qn en ?_
 intro _
 refine ex_sub (E':=[(0,pt b0_ 0),(2,vI a2),(3,vI a3),(4,vI a4)]) ⟨z,z,z,z,trivial⟩ ?_
 refine x_seq (c_seq ?_)
 obtain ⟨x36,hx36,hm37⟩:=bs hm35
 obtain ⟨x38,hx38,hm39⟩:=bs hm37
 obtain ⟨y40,hy40,hm41⟩:=ltx hm39
 refine c_any mixed (effs:=[13]) (V:=[]) ?_
 refine stn mk8_ [0,1,2,3,4,5,6,7,8,9,10,11,12] [13] [_,_,_,_,_,_,_,_,_,_,_,_,_] (q_mv z z z (q_mv z z z (q_u z z (o_nc z) (q_u z z (o_ixA (sz:=1) (n:=16) Tryz.underlying183 (fun _=>by kernel_rfl) z z (gi_nn hx36)) (q_u z z (o_ldV (f:=vD) 0 hx36 sc128 z z) (q_mv z z z (q_mv z z z (q_u z z (o_nc z) (q_u z z (o_ixA (sz:=1) (n:=16) Tryz.underlying183 (fun _=>by kernel_rfl) z z (gi_nn hx38)) (q_u z z (o_ldV (f:=vD) 0 hx38 sc128 z z) (q_u z z (o_bin z z (bD_add _ _)) (q_u z z (o_nc z) (q_u z z (o_ixA (sz:=1) (n:=16) Tryz.underlying183 (fun _=>by kernel_rfl) z z (gi_nn hx36)) qn))))))))))))) ?_ (nxt z)
 refine ec (eo_u z (s_u (o_stV 16 (f:=vD) (u:=x36+x38) hy40 hx36 sc128 z z z z)) le_ ?_) en
 refine stage z z z z mk8_ [] [] z z z qn en ?_
 intro _
 refine ex_sub (E':=[(0,pt b0_ 0),(2,vI a2),(3,vI a3)]) ⟨z,z,z,trivial⟩ ?_
 refine x_seq ?_
 obtain ⟨x42,hx42,hm43⟩:=bs hm41
 obtain ⟨x44,hx44,hm45⟩:=bs hm43
 obtain ⟨y46,hy46,hm47⟩:=ltx hm45
 refine c_any mixed (effs:=[16]) (V:=[]) ?_
 refine stn mk2_ [0,1,2,3,4,5,6,7,8,9,10,11,12,13,14,15] [16] [_,_,_,_,_,_,_,_,_,_,_,_,_,_,_,_] (q_mv z z z (q_mv z z z (q_mv z z z (q_mv z z z (q_u z z (o_nc z) (q_u z z (o_ixA (sz:=1) (n:=16) Tryz.underlying183 (fun _=>by kernel_rfl) z z (gi_nn hx42)) (q_u z z (o_ldV (f:=vD) 0 hx42 sc128 z z) (q_mv z z z (q_mv z z z (q_u z z (o_nc z) (q_u z z (o_ixA (sz:=1) (n:=16) Tryz.underlying183 (fun _=>by kernel_rfl) z z (gi_nn hx44)) (q_u z z (o_ldV (f:=vD) 0 hx44 sc128 z z) (q_u z z (o_bin z z (bD_xor _ _)) (q_u z z (o_callq ca159 z (A7.ok (x42 ^^^ x44) (-7) _ z)) (q_u z z (o_nc z) (q_u z z (o_ixA (sz:=1) (n:=16) Tryz.underlying183 (fun _=>by kernel_rfl) z z (gi_nn hx42)) qn)))))))))))))))) ?_ (nxt z)
 refine ec (eo_u z (s_u (o_stV 16 (f:=vD) (u:=(A7 (x42 ^^^ x44) (-7))) hy46 hx42 sc128 z z z z)) le_ ?_) en
 refine stage z z z z mk2_ [] [] z z z qn en ?_
 intro _
 refine ex_sub (E':=[]) trivial ?_
 refine x_end ?_
 obtain rfl:=si hm47
 exact x_r0 z le_ ⟨_,z,z,z,z⟩
def CA(p10:List UInt32):Nat→Int→(List UInt32)→Option (List UInt32)
 | 0,_,_=>none
 | k20+1,s_18,c_19=>if decide (s_18<8) then (gi (nn 8 c_19) s_18).bind fun x25=>(gi (nn 16 p10) s_18).bind fun x27=>(gi (nn 16 p10) (i64 (s_18+8))).bind fun x29=>lt (ls (nn 8 c_19) s_18 (x25 ^^^ (x27 ^^^ x29))) fun y31=>CA p10 k20 (i64 (s_18+1)) y31 else some c_19
def CB(a1:List UInt8)(r44:Str):Nat→Int→(List UInt32)→Option (List UInt32)
 | 0,_,_=>none
 | k57+1,s_55,c_56=>if decide (s_55<4) then (BR (i64 (8+(i64 (2*s_55)))) a1 r44).bind fun r62=>(BR (i64 (9+(i64 (2*s_55)))) a1 r44).bind fun r64=>(Cs c_56 s_55 (i64 (4+((i64 (s_55+1)).tmod 4))) (i64 (8+((i64 (s_55+2)).tmod 4))) (i64 (12+((i64 (s_55+3)).tmod 4))) r62 r64).bind fun r66=>CB a1 r44 k57 (i64 (s_55+1)) r66 else some c_56
def CC(a1:List UInt8)(r44:Str):Nat→Int→(List UInt32)→Option (List UInt32)
 | 0,_,_=>none
 | k70+1,s_68,c_69=>if decide (s_68<4) then (BR (i64 (2*s_68)) a1 r44).bind fun r75=>(BR (i64 ((i64 (2*s_68))+1)) a1 r44).bind fun r77=>(Cs c_69 s_68 (i64 (s_68+4)) (i64 (s_68+8)) (i64 (s_68+12)) r75 r77).bind fun r79=>CC a1 r44 k70 (i64 (s_68+1)) r79 else some c_69
def CE(a1:List UInt8):Nat→Int→(List UInt32)→Option (List UInt32)
 | 0,_,_=>none
 | k35+1,s_33,c_34=>if decide (s_33<10) then Option.bind ((Dv s_33).bind fun r44=>Option.bind (CC a1 r44 5 0 c_34) fun p47=>Option.bind (CB a1 r44 5 0 p47) fun p51=>some p51) fun p40=>CE a1 k35 (i64 (s_33+1)) p40 else some c_34
def C0(a0:List UInt32)(a1:List UInt8)(a2:UInt64)(a3:Bool):Option (List UInt32) :=
 Option.bind (if a3 then some (~~~(Am.getD 6 default)) else some (Am.getD 6 default)) fun p5=>Option.bind (CE a1 11 0 [(a0.getD 0 default),(a0.getD 1 default),(a0.getD 2 default),(a0.getD 3 default),(a0.getD 4 default),(a0.getD 5 default),(a0.getD 6 default),(a0.getD 7 default),(Am.getD 0 default),(Am.getD 1 default),(Am.getD 2 default),(Am.getD 3 default),(Am.getD 4 default) ^^^ a2.toUInt32,(Am.getD 5 default) ^^^ ((shWr a2 ((32:UInt64).toNat:Int)).toUInt32),p5,(Am.getD 7 default)]) fun p10=>Option.bind (CA p10 9 0 a0) fun p14=>some p14
theorem C0.ok{G R F}(a0:List UInt32)(v1_:Value)(a1:List UInt8)(h1_:RoS R v1_ 1 (fun x=>[vY x]) a1)(a2:UInt64)(a3:Bool)(r:List UInt32)(hm:C0 a0 a1 a2 a3=some r):CO Tryz.prog 63 [.agg [vD (a0.getD 0 default),vD (a0.getD 1 default),vD (a0.getD 2 default),vD (a0.getD 3 default),vD (a0.getD 4 default),vD (a0.getD 5 default),vD (a0.getD 6 default),vD (a0.getD 7 default)].toArray,v1_,vW a2,vB a3] G R (F)
  (Ret fun u R' L'=>u = .agg [vD (r.getD 0 default),vD (r.getD 1 default),vD (r.getD 2 default),vD (r.getD 3 default),vD (r.getD 4 default),vD (r.getD 5 default),vD (r.getD 6 default),vD (r.getD 7 default)].toArray∧R'=R∧L'=F):=by
 unfold C0 at hm
 refine co_ofN (N:=118) Tryz.func63 z z ?_
 refine csr ?_
 refine r_new (o_bx [vD (a0.getD 0 default),vD (a0.getD 1 default),vD (a0.getD 2 default),vD (a0.getD 3 default),vD (a0.getD 4 default),vD (a0.getD 5 default),vD (a0.getD 6 default),vD (a0.getD 7 default)] z z) fun b0 => ?_
 refine r_new (o_bx [v1_] z (sl_cells (RoS.hd h1_))) fun b1 => ?_
 refine r_new (o_al ze129) fun b2 => ?_
 refine nsr ?_
 refine r_new (o_al ze183) fun b3 => ?_
 refine nsr ?_
 refine r_u (o_callq ca62 z (Am.ok _ z)) ?_
 refine r_new (o_al ze129) fun b4 => ?_
 refine r_u0 (o_stn ag129 z z z z z z z) ?_
 refine r_nil (x_seq (c_seq ?_))
 refine c_any mixed (effs:=[2]) (V:=[]) ?_
 refine stage_st (fun _ h=>mv2 (mv4 h)) ?_
 refine stn [0,0,3] [0,1] [2] [_,_] (q_u z z (o_slAh (n:=16) (j:=8) Tryz.underlying183 (fun _=>by kernel_rfl) z z (by decide)) (q_u z z (o_slA Tryz.underlying129 (fun _=>by kernel_rfl) z) qn)) ?_ (nxt z)
 refine ec (eo_u z (s_u (o_cpB (es:=[vD (a0.getD 0 default),vD (a0.getD 1 default),vD (a0.getD 2 default),vD (a0.getD 3 default),vD (a0.getD 4 default),vD (a0.getD 5 default),vD (a0.getD 6 default),vD (a0.getD 7 default),vD 0,vD 0,vD 0,vD 0,vD 0,vD 0,vD 0,vD 0]) Tryz.underlying184 z z z z z z z z z)) le_ ?_) en
 refine stage z z z z [0,0,3] [] [] z z z qn en ?_
 intro _
 refine ex_sub (E':=[(2,vW a2),(3,vB a3),(4,pt b0 0),(5,pt b1 0),(8,pt b2 0),(9,pt b3 0),(10,pt b4 0)]) ⟨z,z,z,z,z,z,z,trivial⟩ ?_
 refine x_seq (c_seq ?_)
 refine c_any mixed (effs:=[2]) (V:=[]) ?_
 refine stage_st (fun _ h=>mv1 (mv2 h)) ?_
 refine stn [0,0,3] [0,1] [2] [_,_] (q_u z z (o_slAl (n:=16) (j:=8) Tryz.underlying183 (fun _=>by kernel_rfl) z z (by decide)) (q_u z z (o_slA Tryz.underlying129 (fun _=>by kernel_rfl) z) qn)) ?_ (nxt z)
 refine ec (eo_u z (s_u (o_cpB (es:=[vD (a0.getD 0 default),vD (a0.getD 1 default),vD (a0.getD 2 default),vD (a0.getD 3 default),vD (a0.getD 4 default),vD (a0.getD 5 default),vD (a0.getD 6 default),vD (a0.getD 7 default),vD (Am.getD 0 default),vD (Am.getD 1 default),vD (Am.getD 2 default),vD (Am.getD 3 default),vD (Am.getD 4 default),vD (Am.getD 5 default),vD (Am.getD 6 default),vD (Am.getD 7 default)]) Tryz.underlying184 z z z z z z z z z)) le_ ?_) en
 refine stage z z z z [0,0,3] [] [] z z z qn en ?_
 intro _
 refine ex_sub (E':=[(2,vW a2),(3,vB a3),(4,pt b0 0),(5,pt b1 0),(8,pt b2 0),(9,pt b3 0)]) ⟨z,z,z,z,z,z,trivial⟩ ?_
 refine x_seq (csr ?_)
 refine r_u (o_ixA (sz:=1) (n:=16) (i:=12) Tryz.underlying183 (fun _=>by kernel_rfl) z z (by decide)) (r_ld 0 sc128 z z z (r_mv z (r_u (o_cv z (cWD Tryz.underlying22 Tryz.underlying128 a2)) (r_bin z z (bD_xor _ _) ?_))))
 refine r_u (o_ixA (sz:=1) (n:=16) (i:=12) Tryz.underlying183 (fun _=>by kernel_rfl) z z (by decide)) ?_
 refine r_u0 (o_st sc128 z z z z z z) ?_
 refine nsr ?_
 refine r_u (o_ixA (sz:=1) (n:=16) (i:=13) Tryz.underlying183 (fun _=>by kernel_rfl) z z (by decide)) (r_ld 0 sc128 z z z (r_mv z (r_bin z z (bWW_shr a2 32) (r_u (o_cv z (cWD Tryz.underlying22 Tryz.underlying128 (shWr a2 ((32:UInt64).toNat:Int)))) (r_u (o_bin z z (bD_xor _ _)) ?_)))))
 refine r_u (o_ixA (sz:=1) (n:=16) (i:=13) Tryz.underlying183 (fun _=>by kernel_rfl) z z (by decide)) ?_
 refine r_u0 (o_st sc128 z z z z z z) ?_
 refine nssr ?_
 refine r_mv z ?_
 refine nsq ?_
 obtain ⟨p5,hp6,hm7⟩:=bs hm
 refine cd_join (E':=[(4,pt b0 0),(5,pt b1 0),(8,pt b2 0),(9,pt b3 0)]) (L':=Bk b3 183 [vD (a0.getD 0 default),vD (a0.getD 1 default),vD (a0.getD 2 default),vD (a0.getD 3 default),vD (a0.getD 4 default),vD (a0.getD 5 default),vD (a0.getD 6 default),vD (a0.getD 7 default),vD (Am.getD 0 default),vD (Am.getD 1 default),vD (Am.getD 2 default),vD (Am.getD 3 default),vD ((Am.getD 4 default) ^^^ a2.toUInt32),vD ((Am.getD 5 default) ^^^ ((shWr a2 ((32:UInt64).toNat:Int)).toUInt32)),vD p5,vD (Am.getD 7 default)]::Bk b4 129 [vD (Am.getD 0 default),vD (Am.getD 1 default),vD (Am.getD 2 default),vD (Am.getD 3 default),vD (Am.getD 4 default),vD (Am.getD 5 default),vD (Am.getD 6 default),vD (Am.getD 7 default)]::Bk b0 129 [vD (a0.getD 0 default),vD (a0.getD 1 default),vD (a0.getD 2 default),vD (a0.getD 3 default),vD (a0.getD 4 default),vD (a0.getD 5 default),vD (a0.getD 6 default),vD (a0.getD 7 default)]::Bk b2 129 [vD 0,vD 0,vD 0,vD 0,vD 0,vD 0,vD 0,vD 0]::Bk b1 131 [v1_]::F) ?_ fun K8 => ?_
 rotate_left
 ·refine c_if (b:=a3) z (fun h81 => ?_) fun h81 => ?_
  ·have hm82:=ift hp6 h81
   refine c_reg ?_
   refine r_u (o_ixA (sz:=1) (n:=16) (i:=14) Tryz.underlying183 (fun _=>by kernel_rfl) z z (by decide)) (r_ld 0 sc128 z z z ?_)
   refine r_u (o_un z (uD_xor (Am.getD 6 default))) ?_
   refine r_u (o_ixA (sz:=1) (n:=16) (i:=14) Tryz.underlying183 (fun _=>by kernel_rfl) z z (by decide)) ?_
   refine r_u0 (o_st sc128 z z z z z z) ?_
   refine r_nil ?_
   obtain rfl:=si hm82
   exact x_sub K8 ⟨z,z,z,z,trivial⟩ (pk 5 [0,1,2,3,4])
  have hm82:=iff_ hp6 h81
  refine c_skip ?_
  obtain rfl:=si hm82
  exact x_sub K8 ⟨z,z,z,z,trivial⟩ (pk 5 [0,1,2,3,4])
 refine x_seq (csr ?_)
 refine r_u (o_mf z) ?_
 refine r_new (o_al ze185) fun b9 => ?_
 refine r_u0 (o_st sc185 z z z z z z) ?_
 refine nssr ?_
 refine r_mv z ?_
 refine nsq ?_
 obtain ⟨p10,hp11,hm12⟩:=bs hm7
 refine cd_join (E':=[(4,pt b0 0),(8,pt b2 0),(9,pt b3 0)]) (L':=Bk b9 185 [.func (.func 110) #[] #[pt b1 0]]::Bk b3 183 [vD (p10.getD 0 default),vD (p10.getD 1 default),vD (p10.getD 2 default),vD (p10.getD 3 default),vD (p10.getD 4 default),vD (p10.getD 5 default),vD (p10.getD 6 default),vD (p10.getD 7 default),vD (p10.getD 8 default),vD (p10.getD 9 default),vD (p10.getD 10 default),vD (p10.getD 11 default),vD (p10.getD 12 default),vD (p10.getD 13 default),vD (p10.getD 14 default),vD (p10.getD 15 default)]::Bk b4 129 [vD (Am.getD 0 default),vD (Am.getD 1 default),vD (Am.getD 2 default),vD (Am.getD 3 default),vD (Am.getD 4 default),vD (Am.getD 5 default),vD (Am.getD 6 default),vD (Am.getD 7 default)]::Bk b0 129 [vD (a0.getD 0 default),vD (a0.getD 1 default),vD (a0.getD 2 default),vD (a0.getD 3 default),vD (a0.getD 4 default),vD (a0.getD 5 default),vD (a0.getD 6 default),vD (a0.getD 7 default)]::Bk b2 129 [vD 0,vD 0,vD 0,vD 0,vD 0,vD 0,vD 0,vD 0]::Bk b1 131 [v1_]::F) ?_ fun K13 => ?_
 ·refine x_seq (c_seq (csr ?_))
  refine r_mv z ?_
  refine nsq ?_
  obtain ⟨p14,hp15,hm16⟩:=bs hm12
  refine cd_join (E':=[(4,pt b0 0),(8,pt b2 0)]) (L':=Bk b9 185 [.func (.func 110) #[] #[pt b1 0]]::Bk b3 183 [vD (p10.getD 0 default),vD (p10.getD 1 default),vD (p10.getD 2 default),vD (p10.getD 3 default),vD (p10.getD 4 default),vD (p10.getD 5 default),vD (p10.getD 6 default),vD (p10.getD 7 default),vD (p10.getD 8 default),vD (p10.getD 9 default),vD (p10.getD 10 default),vD (p10.getD 11 default),vD (p10.getD 12 default),vD (p10.getD 13 default),vD (p10.getD 14 default),vD (p10.getD 15 default)]::Bk b4 129 [vD (Am.getD 0 default),vD (Am.getD 1 default),vD (Am.getD 2 default),vD (Am.getD 3 default),vD (Am.getD 4 default),vD (Am.getD 5 default),vD (Am.getD 6 default),vD (Am.getD 7 default)]::Bk b0 129 [vD (p14.getD 0 default),vD (p14.getD 1 default),vD (p14.getD 2 default),vD (p14.getD 3 default),vD (p14.getD 4 default),vD (p14.getD 5 default),vD (p14.getD 6 default),vD (p14.getD 7 default)]::Bk b2 129 [vD 0,vD 0,vD 0,vD 0,vD 0,vD 0,vD 0,vD 0]::Bk b1 131 [v1_]::F) ?_ fun K17 => ?_
  ·refine x_seq (csr ?_)
   refine r_u (o_ldn 3 [vD (p14.getD 0 default),vD (p14.getD 1 default),vD (p14.getD 2 default),vD (p14.getD 3 default),vD (p14.getD 4 default),vD (p14.getD 5 default),vD (p14.getD 6 default),vD (p14.getD 7 default)] ag129 z z z z) ?_
   refine rl_st (fun _ h=>mv4 h) ?_
   refine r_u0 (o_stn ag129 z z z z z z z) ?_
   refine r_nil (x_seq (c_ret ?_))
   obtain rfl:=si hm16
   exact x_d1 z (rv_n 0 [vD (p14.getD 0 default),vD (p14.getD 1 default),vD (p14.getD 2 default),vD (p14.getD 3 default),vD (p14.getD 4 default),vD (p14.getD 5 default),vD (p14.getD 6 default),vD (p14.getD 7 default)] ag129 z z z z) (pk 6 []) le_ ⟨_,z,z,z,z⟩
  refine c_blk ?_
  refine cd_loop (M:=fun k20 (s:Int×List UInt32)=>CA p10 k20 s.1 s.2=some p14) (Ef:=fun (s:Int×List UInt32)=>[(4,pt b0 0),(8,pt b2 0),(9,pt b3 0),(100,vI s.1)]) (Lf:=fun (s:Int×List UInt32)=>Bk b9 185 [.func (.func 110) #[] #[pt b1 0]]::Bk b3 183 [vD (p10.getD 0 default),vD (p10.getD 1 default),vD (p10.getD 2 default),vD (p10.getD 3 default),vD (p10.getD 4 default),vD (p10.getD 5 default),vD (p10.getD 6 default),vD (p10.getD 7 default),vD (p10.getD 8 default),vD (p10.getD 9 default),vD (p10.getD 10 default),vD (p10.getD 11 default),vD (p10.getD 12 default),vD (p10.getD 13 default),vD (p10.getD 14 default),vD (p10.getD 15 default)]::Bk b4 129 [vD (Am.getD 0 default),vD (Am.getD 1 default),vD (Am.getD 2 default),vD (Am.getD 3 default),vD (Am.getD 4 default),vD (Am.getD 5 default),vD (Am.getD 6 default),vD (Am.getD 7 default)]::Bk b0 129 [vD (s.2.getD 0 default),vD (s.2.getD 1 default),vD (s.2.getD 2 default),vD (s.2.getD 3 default),vD (s.2.getD 4 default),vD (s.2.getD 5 default),vD (s.2.getD 6 default),vD (s.2.getD 7 default)]::Bk b2 129 [vD 0,vD 0,vD 0,vD 0,vD 0,vD 0,vD 0,vD 0]::Bk b1 131 [v1_]::F) 9 (0,a0) hp15 ⟨z,z,z,z,trivial⟩ (fun _ h=>h) (fun _ h=>by cases h) fun k20 s hM22 => ?_
  obtain ⟨s_18,c_19⟩:=s
  have hm21:CA p10 (k20+1) s_18 c_19=some p14:=hM22
  rw [CA] at hm21
  refine csr ?_
  refine r_bin z z (bI_lt _ 8) ?_
  refine r_nil (x_seq (c_seq ?_))
  refine c_if (b:=decide (s_18<8)) z (fun h23 => ?_) fun h23 => ?_
  rotate_left
  ·have hm24:=iff_ hm21 h23
   refine c_exit (x_exit (ks':=_) z ?_)
   obtain rfl:=si hm24
   exact x_sub K17 ⟨z,z,trivial⟩ (pk 6 [0,1,2,3,4,5])
  have hm24:=ift hm21 h23
  refine c_skip (x_seq (c_seq (c_blk (csr ?_))))
  refine r_mv z (r_as z ?_)
  refine nsq ?_
  obtain ⟨x25,hx25,hm26⟩:=bs hm24
  obtain ⟨x27,hx27,hm28⟩:=bs hm26
  obtain ⟨x29,hx29,hm30⟩:=bs hm28
  obtain ⟨y31,hy31,hm32⟩:=ltx hm30
  refine c_any mixed (effs:=[13]) (V:=[]) ?_
  refine stage_st (fun _ h=>mv3 h) ?_
  refine stn mk23_ [0,1,2,3,4,5,6,7,8,9,10,11,12] [13] [_,_,_,_,_,_,_,_,_,_,_,_,_] (q_mv z z z (q_u z z (o_ixA (sz:=1) (n:=8) Tryz.underlying129 (fun _=>by kernel_rfl) z z (gi_nn hx25)) (q_u z z (o_ldV (f:=vD) 0 hx25 sc128 z z) (q_mv z z z (q_u z z (o_ixA (sz:=1) (n:=16) Tryz.underlying183 (fun _=>by kernel_rfl) z z (gi_nn hx27)) (q_u z z (o_ldV (f:=vD) 2 hx27 sc128 z z) (q_mv z z z (q_u z z (o_bin z z (bI_add _ 8)) (q_u z z (o_ixA (sz:=1) (n:=16) Tryz.underlying183 (fun _=>by kernel_rfl) z z (gi_nn hx29)) (q_u z z (o_ldV (f:=vD) 2 hx29 sc128 z z) (q_u z z (o_bin z z (bD_xor _ _)) (q_u z z (o_bin z z (bD_xor _ _)) (q_u z z (o_ixA (sz:=1) (n:=8) Tryz.underlying129 (fun _=>by kernel_rfl) z z (gi_nn hx25)) qn))))))))))))) ?_ (nxt z)
  refine ec (eo_u z (s_u (o_stV 8 (f:=vD) (u:=x25 ^^^ (x27 ^^^ x29)) hy31 hx25 sc128 z z z z)) le_ ?_) en
  refine stage z z z z mk23_ [] [] z z z qn en ?_
  intro _
  refine ex_sub (E':=[(4,pt b0 0),(8,pt b2 0),(9,pt b3 0),(100,vI s_18)]) ⟨z,z,z,z,trivial⟩ ?_
  refine x_blk (x_seq (c_reg ?_))
  refine r_bin z z (bI_add _ 1) (r_mv z ?_)
  refine r_nil ?_
  exact x_lp (i64 (s_18+1),y31) hm32 ⟨z,z,z,z,trivial⟩ (pk 6 [1,2,3,0,4,5])
 refine c_blk ?_
 refine cd_loop (M:=fun k35 (s:Int×List UInt32)=>CE a1 k35 s.1 s.2=some p10) (Ef:=fun (s:Int×List UInt32)=>[(4,pt b0 0),(8,pt b2 0),(9,pt b3 0),(11,pt b9 0),(44,vI s.1)]) (Lf:=fun (s:Int×List UInt32)=>Bk b9 185 [.func (.func 110) #[] #[pt b1 0]]::Bk b3 183 [vD (s.2.getD 0 default),vD (s.2.getD 1 default),vD (s.2.getD 2 default),vD (s.2.getD 3 default),vD (s.2.getD 4 default),vD (s.2.getD 5 default),vD (s.2.getD 6 default),vD (s.2.getD 7 default),vD (s.2.getD 8 default),vD (s.2.getD 9 default),vD (s.2.getD 10 default),vD (s.2.getD 11 default),vD (s.2.getD 12 default),vD (s.2.getD 13 default),vD (s.2.getD 14 default),vD (s.2.getD 15 default)]::Bk b4 129 [vD (Am.getD 0 default),vD (Am.getD 1 default),vD (Am.getD 2 default),vD (Am.getD 3 default),vD (Am.getD 4 default),vD (Am.getD 5 default),vD (Am.getD 6 default),vD (Am.getD 7 default)]::Bk b0 129 [vD (a0.getD 0 default),vD (a0.getD 1 default),vD (a0.getD 2 default),vD (a0.getD 3 default),vD (a0.getD 4 default),vD (a0.getD 5 default),vD (a0.getD 6 default),vD (a0.getD 7 default)]::Bk b2 129 [vD 0,vD 0,vD 0,vD 0,vD 0,vD 0,vD 0,vD 0]::Bk b1 131 [v1_]::F) 11 (0,[(a0.getD 0 default),(a0.getD 1 default),(a0.getD 2 default),(a0.getD 3 default),(a0.getD 4 default),(a0.getD 5 default),(a0.getD 6 default),(a0.getD 7 default),(Am.getD 0 default),(Am.getD 1 default),(Am.getD 2 default),(Am.getD 3 default),(Am.getD 4 default) ^^^ a2.toUInt32,(Am.getD 5 default) ^^^ ((shWr a2 ((32:UInt64).toNat:Int)).toUInt32),p5,(Am.getD 7 default)]) hp11 ⟨z,z,z,z,z,trivial⟩ (fun _ h=>h) (fun _ h=>by cases h) fun k35 s hM37 => ?_
 obtain ⟨s_33,c_34⟩:=s
 have hm36:CE a1 (k35+1) s_33 c_34=some p10:=hM37
 rw [CE] at hm36
 refine csr ?_
 refine r_bin z z (bI_lt _ 10) ?_
 refine r_nil (x_seq (c_seq ?_))
 refine c_if (b:=decide (s_33<10)) z (fun h38 => ?_) fun h38 => ?_
 rotate_left
 ·have hm39:=iff_ hm36 h38
  refine c_exit (x_exit (ks':=_) z ?_)
  obtain rfl:=si hm39
  exact x_sub K13 ⟨z,z,z,trivial⟩ (pk 6 [0,1,2,3,4,5])
 have hm39:=ift hm36 h38
 refine c_skip (x_seq (c_seq ?_))
 obtain ⟨p40,hp41,hm42⟩:=bs hm39
 refine cd_join (E':=[(4,pt b0 0),(8,pt b2 0),(9,pt b3 0),(11,pt b9 0),(44,vI s_33)]) (L':=Bk b9 185 [.func (.func 110) #[] #[pt b1 0]]::Bk b3 183 [vD (p40.getD 0 default),vD (p40.getD 1 default),vD (p40.getD 2 default),vD (p40.getD 3 default),vD (p40.getD 4 default),vD (p40.getD 5 default),vD (p40.getD 6 default),vD (p40.getD 7 default),vD (p40.getD 8 default),vD (p40.getD 9 default),vD (p40.getD 10 default),vD (p40.getD 11 default),vD (p40.getD 12 default),vD (p40.getD 13 default),vD (p40.getD 14 default),vD (p40.getD 15 default)]::Bk b4 129 [vD (Am.getD 0 default),vD (Am.getD 1 default),vD (Am.getD 2 default),vD (Am.getD 3 default),vD (Am.getD 4 default),vD (Am.getD 5 default),vD (Am.getD 6 default),vD (Am.getD 7 default)]::Bk b0 129 [vD (a0.getD 0 default),vD (a0.getD 1 default),vD (a0.getD 2 default),vD (a0.getD 3 default),vD (a0.getD 4 default),vD (a0.getD 5 default),vD (a0.getD 6 default),vD (a0.getD 7 default)]::Bk b2 129 [vD 0,vD 0,vD 0,vD 0,vD 0,vD 0,vD 0,vD 0]::Bk b1 131 [v1_]::F) ?_ fun K43 => ?_
 ·refine x_seq (c_reg ?_)
  refine r_bin z z (bI_add _ 1) (r_mv z ?_)
  refine r_nil ?_
  exact x_lp (i64 (s_33+1),p40) hm42 ⟨z,z,z,z,z,trivial⟩ (pk 6 [0,1,2,3,4,5])
 refine c_blk (csr ?_)
 refine r_mv z (r_as z ?_)
 refine nsr ?_
 refine r_mv z ?_
 obtain ⟨r44,hr44,hm45⟩:=bs hp41
 refine r_u (o_callq ca111 z (Dv.ok _ _ hr44)) ?_
 refine r_new (o_al ze9) fun b46 => ?_
 refine r_u0 (o_st sc9 z z z z z z) ?_
 refine nsr ?_
 refine r_u (o_mf z) (r_as z ?_)
 refine nssr ?_
 refine r_mv z ?_
 refine nsq ?_
 obtain ⟨p47,hp48,hm49⟩:=bs hm45
 refine cd_join (E':=[(4,pt b0 0),(8,pt b2 0),(9,pt b3 0),(11,pt b9 0),(14,.func (.func 112) #[] #[pt b9 0,pt b46 0]),(44,vI s_33)]) (L':=Bk b46 9 [vS r44]::Bk b9 185 [.func (.func 110) #[] #[pt b1 0]]::Bk b3 183 [vD (p47.getD 0 default),vD (p47.getD 1 default),vD (p47.getD 2 default),vD (p47.getD 3 default),vD (p47.getD 4 default),vD (p47.getD 5 default),vD (p47.getD 6 default),vD (p47.getD 7 default),vD (p47.getD 8 default),vD (p47.getD 9 default),vD (p47.getD 10 default),vD (p47.getD 11 default),vD (p47.getD 12 default),vD (p47.getD 13 default),vD (p47.getD 14 default),vD (p47.getD 15 default)]::Bk b4 129 [vD (Am.getD 0 default),vD (Am.getD 1 default),vD (Am.getD 2 default),vD (Am.getD 3 default),vD (Am.getD 4 default),vD (Am.getD 5 default),vD (Am.getD 6 default),vD (Am.getD 7 default)]::Bk b0 129 [vD (a0.getD 0 default),vD (a0.getD 1 default),vD (a0.getD 2 default),vD (a0.getD 3 default),vD (a0.getD 4 default),vD (a0.getD 5 default),vD (a0.getD 6 default),vD (a0.getD 7 default)]::Bk b2 129 [vD 0,vD 0,vD 0,vD 0,vD 0,vD 0,vD 0,vD 0]::Bk b1 131 [v1_]::F) ?_ fun K50 => ?_
 ·refine x_seq (csr ?_)
  refine r_mv z ?_
  refine nsq ?_
  obtain ⟨p51,hp52,hm53⟩:=bs hm49
  refine cd_join (E':=[(4,pt b0 0),(8,pt b2 0),(9,pt b3 0),(11,pt b9 0),(44,vI s_33)]) (L':=Bk b46 9 [vS r44]::Bk b9 185 [.func (.func 110) #[] #[pt b1 0]]::Bk b3 183 [vD (p51.getD 0 default),vD (p51.getD 1 default),vD (p51.getD 2 default),vD (p51.getD 3 default),vD (p51.getD 4 default),vD (p51.getD 5 default),vD (p51.getD 6 default),vD (p51.getD 7 default),vD (p51.getD 8 default),vD (p51.getD 9 default),vD (p51.getD 10 default),vD (p51.getD 11 default),vD (p51.getD 12 default),vD (p51.getD 13 default),vD (p51.getD 14 default),vD (p51.getD 15 default)]::Bk b4 129 [vD (Am.getD 0 default),vD (Am.getD 1 default),vD (Am.getD 2 default),vD (Am.getD 3 default),vD (Am.getD 4 default),vD (Am.getD 5 default),vD (Am.getD 6 default),vD (Am.getD 7 default)]::Bk b0 129 [vD (a0.getD 0 default),vD (a0.getD 1 default),vD (a0.getD 2 default),vD (a0.getD 3 default),vD (a0.getD 4 default),vD (a0.getD 5 default),vD (a0.getD 6 default),vD (a0.getD 7 default)]::Bk b2 129 [vD 0,vD 0,vD 0,vD 0,vD 0,vD 0,vD 0,vD 0]::Bk b1 131 [v1_]::F) ?_ fun K54 => ?_
  ·refine x_blk ?_
   obtain rfl:=si hm53
   exact x_sub K43 ⟨z,z,z,z,z,trivial⟩ (pk 7 [1,2,3,4,5,6])
  refine c_blk ?_
  refine cd_loop (M:=fun k57 (s:Int×List UInt32)=>CB a1 r44 k57 s.1 s.2=some p51) (Ef:=fun (s:Int×List UInt32)=>[(4,pt b0 0),(8,pt b2 0),(9,pt b3 0),(11,pt b9 0),(14,.func (.func 112) #[] #[pt b9 0,pt b46 0]),(44,vI s_33),(71,vI s.1)]) (Lf:=fun (s:Int×List UInt32)=>Bk b46 9 [vS r44]::Bk b9 185 [.func (.func 110) #[] #[pt b1 0]]::Bk b3 183 [vD (s.2.getD 0 default),vD (s.2.getD 1 default),vD (s.2.getD 2 default),vD (s.2.getD 3 default),vD (s.2.getD 4 default),vD (s.2.getD 5 default),vD (s.2.getD 6 default),vD (s.2.getD 7 default),vD (s.2.getD 8 default),vD (s.2.getD 9 default),vD (s.2.getD 10 default),vD (s.2.getD 11 default),vD (s.2.getD 12 default),vD (s.2.getD 13 default),vD (s.2.getD 14 default),vD (s.2.getD 15 default)]::Bk b4 129 [vD (Am.getD 0 default),vD (Am.getD 1 default),vD (Am.getD 2 default),vD (Am.getD 3 default),vD (Am.getD 4 default),vD (Am.getD 5 default),vD (Am.getD 6 default),vD (Am.getD 7 default)]::Bk b0 129 [vD (a0.getD 0 default),vD (a0.getD 1 default),vD (a0.getD 2 default),vD (a0.getD 3 default),vD (a0.getD 4 default),vD (a0.getD 5 default),vD (a0.getD 6 default),vD (a0.getD 7 default)]::Bk b2 129 [vD 0,vD 0,vD 0,vD 0,vD 0,vD 0,vD 0,vD 0]::Bk b1 131 [v1_]::F) 5 (0,p47) hp52 ⟨z,z,z,z,z,z,z,trivial⟩ (fun _ h=>h) (fun _ h=>by cases h) fun k57 s hM59 => ?_
  obtain ⟨s_55,c_56⟩:=s
  have hm58:CB a1 r44 (k57+1) s_55 c_56=some p51:=hM59
  rw [CB] at hm58
  refine csr ?_
  refine r_bin z z (bI_lt _ 4) ?_
  refine r_nil (x_seq (c_seq ?_))
  refine c_if (b:=decide (s_55<4)) z (fun h60 => ?_) fun h60 => ?_
  rotate_left
  ·have hm61:=iff_ hm58 h60
   refine c_exit (x_exit (ks':=_) z ?_)
   obtain rfl:=si hm61
   exact x_sub K54 ⟨z,z,z,z,z,trivial⟩ (pk 7 [0,1,2,3,4,5,6])
  have hm61:=ift hm58 h60
  refine c_skip (x_seq (c_seq (c_blk (csr ?_))))
  refine r_mv z (r_as z ?_)
  refine r_nil (x_seq (c_reg ?_))
  refine r_mv z (r_mv z (r_bin z z (bI_add _ 1) (r_bin z z (bI_rem _ 4 (by decide)) (r_bin z z (bI_add 4 _) (r_mv z (r_bin z z (bI_add _ 2) (r_bin z z (bI_rem _ 4 (by decide)) (r_bin z z (bI_add 8 _) (r_mv z (r_bin z z (bI_add _ 3) (r_bin z z (bI_rem _ 4 (by decide)) (r_bin z z (bI_add 12 _) (r_mv z (r_mv z (r_bin z z (bI_mul 2 _) (r_bin z z (bI_add 8 _) ?_))))))))))))))))
  obtain ⟨r62,hr62,hm63⟩:=bs hm61
  refine rl_st (fun _ h=>mv2 (mv6 h)) ?_
  refine r_c (s_w (o_callC z ca112 z (BR.ok _ b9 b1 a1 v1_ h1_ b46 _ _ hr62))) ?_
  refine r_mv z (r_mv z (r_bin z z (bI_mul 2 _) (r_bin z z (bI_add 9 _) ?_)))
  obtain ⟨r64,hr64,hm65⟩:=bs hm63
  refine r_c (s_w (o_callC z ca112 z (BR.ok _ b9 b1 a1 v1_ h1_ b46 _ _ hr64))) ?_
  obtain ⟨r66,hr66,hm67⟩:=bs hm65
  refine rl_st (fun _ h=>mv3 h) ?_
  refine r_c (s_w (o_call ca114 z (Cs.ok b3 _ _ _ _ _ _ _ _ hr66))) ?_
  refine r_nil (x_blk (x_seq (c_reg ?_)))
  refine r_bin z z (bI_add _ 1) (r_mv z ?_)
  refine r_nil ?_
  exact x_lp (i64 (s_55+1),r66) hm67 ⟨z,z,z,z,z,z,z,trivial⟩ (pk 7 [3,1,0,4,5,6,2])
 refine c_blk ?_
 refine cd_loop (M:=fun k70 (s:Int×List UInt32)=>CC a1 r44 k70 s.1 s.2=some p47) (Ef:=fun (s:Int×List UInt32)=>[(4,pt b0 0),(8,pt b2 0),(9,pt b3 0),(11,pt b9 0),(14,.func (.func 112) #[] #[pt b9 0,pt b46 0]),(44,vI s_33),(50,vI s.1)]) (Lf:=fun (s:Int×List UInt32)=>Bk b46 9 [vS r44]::Bk b9 185 [.func (.func 110) #[] #[pt b1 0]]::Bk b3 183 [vD (s.2.getD 0 default),vD (s.2.getD 1 default),vD (s.2.getD 2 default),vD (s.2.getD 3 default),vD (s.2.getD 4 default),vD (s.2.getD 5 default),vD (s.2.getD 6 default),vD (s.2.getD 7 default),vD (s.2.getD 8 default),vD (s.2.getD 9 default),vD (s.2.getD 10 default),vD (s.2.getD 11 default),vD (s.2.getD 12 default),vD (s.2.getD 13 default),vD (s.2.getD 14 default),vD (s.2.getD 15 default)]::Bk b4 129 [vD (Am.getD 0 default),vD (Am.getD 1 default),vD (Am.getD 2 default),vD (Am.getD 3 default),vD (Am.getD 4 default),vD (Am.getD 5 default),vD (Am.getD 6 default),vD (Am.getD 7 default)]::Bk b0 129 [vD (a0.getD 0 default),vD (a0.getD 1 default),vD (a0.getD 2 default),vD (a0.getD 3 default),vD (a0.getD 4 default),vD (a0.getD 5 default),vD (a0.getD 6 default),vD (a0.getD 7 default)]::Bk b2 129 [vD 0,vD 0,vD 0,vD 0,vD 0,vD 0,vD 0,vD 0]::Bk b1 131 [v1_]::F) 5 (0,c_34) hp48 ⟨z,z,z,z,z,z,z,trivial⟩ (fun _ h=>h) (fun _ h=>by cases h) fun k70 s hM72 => ?_
 obtain ⟨s_68,c_69⟩:=s
 have hm71:CC a1 r44 (k70+1) s_68 c_69=some p47:=hM72
 rw [CC] at hm71
 refine csr ?_
 refine r_bin z z (bI_lt _ 4) ?_
 refine r_nil (x_seq (c_seq ?_))
 refine c_if (b:=decide (s_68<4)) z (fun h73 => ?_) fun h73 => ?_
 rotate_left
 ·have hm74:=iff_ hm71 h73
  refine c_exit (x_exit (ks':=_) z ?_)
  obtain rfl:=si hm74
  exact x_sub K50 ⟨z,z,z,z,z,z,trivial⟩ (pk 7 [0,1,2,3,4,5,6])
 have hm74:=ift hm71 h73
 refine c_skip (x_seq (c_seq (c_blk (csr ?_))))
 refine r_mv z (r_as z ?_)
 refine r_nil (x_seq (c_reg ?_))
 refine r_mv z (r_mv z (r_bin z z (bI_add _ 4) (r_mv z (r_bin z z (bI_add _ 8) (r_mv z (r_bin z z (bI_add _ 12) (r_mv z (r_mv z (r_bin z z (bI_mul 2 _) ?_)))))))))
 obtain ⟨r75,hr75,hm76⟩:=bs hm74
 refine rl_st (fun _ h=>mv2 (mv6 h)) ?_
 refine r_c (s_w (o_callC z ca112 z (BR.ok _ b9 b1 a1 v1_ h1_ b46 _ _ hr75))) ?_
 refine r_mv z (r_mv z (r_bin z z (bI_mul 2 _) (r_bin z z (bI_add _ 1) ?_)))
 obtain ⟨r77,hr77,hm78⟩:=bs hm76
 refine r_c (s_w (o_callC z ca112 z (BR.ok _ b9 b1 a1 v1_ h1_ b46 _ _ hr77))) ?_
 obtain ⟨r79,hr79,hm80⟩:=bs hm78
 refine rl_st (fun _ h=>mv3 h) ?_
 refine r_c (s_w (o_call ca114 z (Cs.ok b3 _ _ _ _ _ _ _ _ hr79))) ?_
 refine r_nil (x_blk (x_seq (c_reg ?_)))
 refine r_bin z z (bI_add _ 1) (r_mv z ?_)
 refine r_nil ?_
 exact x_lp (i64 (s_68+1),r79) hm80 ⟨z,z,z,z,z,z,z,trivial⟩ (pk 7 [3,1,0,4,5,6,2])
def C8(r19:List UInt32):Nat→(List UInt8)→Int→Option (List UInt8)
 | 0,_,_=>none
 | k29+1,out_26,s_27=>if decide (s_27<8) then (gi (nn 8 r19) s_27).bind fun x34=>(apd 1 out_26 [x34.toUInt8,(shDr x34 ((8:UInt64).toNat:Int)).toUInt8,(shDr x34 ((16:UInt64).toNat:Int)).toUInt8,(shDr x34 ((24:UInt64).toNat:Int)).toUInt8]).bind fun l38=>C8 r19 k29 l38 (i64 (s_27+1)) else some out_26
def Dh : Nat→(List UInt8)→UInt64→(List UInt32)→Option (List UInt8×UInt64×List UInt32)
 | 0,_,_,_=>none
 | k47+1,p_40,many_41,c_42=>if decide (64<(p_40.length:Int)) then (sl p_40 0 64).bind fun l56=>(C0 c_42 l56 (many_41+64) false).bind fun r58=>(sl p_40 64 (p_40.length:Int)).bind fun l60=>Dh k47 l60 (many_41+64) r58 else some (p_40,many_41,c_42)
def Dt(a0:Str):Option Str :=
 if a0.length≤maxLen then Option.bind (Dh (a0.length+1) a0 0 [(Am.getD 0 default) ^^^ 16842784,(Am.getD 1 default),(Am.getD 2 default),(Am.getD 3 default),(Am.getD 4 default),(Am.getD 5 default),(Am.getD 6 default),(Am.getD 7 default)]) fun p4=>(cpy [0,0,0,0,0,0,0,0,0,0,0,0,0,0,0,0,0,0,0,0,0,0,0,0,0,0,0,0,0,0,0,0,0,0,0,0,0,0,0,0,0,0,0,0,0,0,0,0,0,0,0,0,0,0,0,0,0,0,0,0,0,0,0,0] p4.1).bind fun l13=>(C0 p4.2.2 l13 (p4.2.1+(toW (p4.1.length:Int))) true).bind fun r19=>Option.bind (C8 r19 9 [] 0) fun p21=>some p21 else none
theorem Dt.ok{G R F}(a0:Str)(r:Str)(hm:Dt a0=some r):CO Tryz.prog 33 [vS a0] G R (F)
  (Ret fun u R' L'=>u=vS r∧True∧L'=F):=by
 unfold Dt at hm
 refine co_ofN (N:=62) Tryz.func33 z z ?_
 refine csr ?_
 refine r_as z ?_
 refine nsr ?_
 refine r_u (o_callq ca62 z (Am.ok _ z)) ?_
 refine r_new (o_al ze129) fun b0 => ?_
 refine r_u0 (o_stn ag129 z z z z z z z) ?_
 refine nsr ?_
 refine r_u (o_ixA (sz:=1) (n:=8) (i:=0) Tryz.underlying129 (fun _=>by kernel_rfl) z z (by decide)) (r_ld 0 sc128 z z z (r_bin z z (bD_xor _ 16842784) ?_))
 refine r_u (o_ixA (sz:=1) (n:=8) (i:=0) Tryz.underlying129 (fun _=>by kernel_rfl) z z (by decide)) ?_
 refine r_u0 (o_st sc128 z z z z z z) ?_
 refine nsr ?_
 refine r_mv z ?_
 obtain ⟨h1,hm3⟩:=ig hm
 refine r_sw (s_w (o_sb Tryz.underlying9 Tryz.underlying131 Tryz.underlying5 z h1)) ?_
 rintro v2 R _ _ ⟨rfl,rfl⟩
 refine r_as z (r_as z ?_)
 refine r_nil (x_seq (c_seq ?_))
 obtain ⟨p4,hp9,hm10⟩:=bs hm3
 refine cd_cut (fun x ks=>∀(R5:PH),∀(le6:Le R R5),∀(g8:Value),∀(hf7:RoS R5 g8 1 (fun x=>[vY x]) p4.1),EX x .normal ks [(3,pt b0 0),(4,g8),(5,vW p4.2.1)] R5 (Bk b0 129 [vD (p4.2.2.getD 0 default),vD (p4.2.2.getD 1 default),vD (p4.2.2.getD 2 default),vD (p4.2.2.getD 3 default),vD (p4.2.2.getD 4 default),vD (p4.2.2.getD 5 default),vD (p4.2.2.getD 6 default),vD (p4.2.2.getD 7 default)]::F)) ?_ fun K11 => ?_
 rotate_left
 ·refine c_blk ?_
  refine cd_ex (fun w h=>st_freeze w h) fun R48 hf51 => ?_
  obtain ⟨le49,h50⟩:=hf51
  refine cd_loopG (M:=fun k47 (s:List UInt8×UInt64×List UInt32×Value×PH)=>(Dh k47 s.1 s.2.1 s.2.2.1=some p4)∧(Le R s.2.2.2.2)∧(RoS s.2.2.2.2 s.2.2.2.1 1 (fun x=>[vY x]) s.1)) (Ef:=fun (s:List UInt8×UInt64×List UInt32×Value×PH)=>[(3,pt b0 0),(4,s.2.2.2.1),(5,vW s.2.1)]) (Rf:=fun (s:List UInt8×UInt64×List UInt32×Value×PH)=>s.2.2.2.2) (Lf:=fun (s:List UInt8×UInt64×List UInt32×Value×PH)=>Bk b0 129 [vD (s.2.2.1.getD 0 default),vD (s.2.2.1.getD 1 default),vD (s.2.2.1.getD 2 default),vD (s.2.2.1.getD 3 default),vD (s.2.2.1.getD 4 default),vD (s.2.2.1.getD 5 default),vD (s.2.2.1.getD 6 default),vD (s.2.2.1.getD 7 default)]::F) (a0.length+1) (a0,0,[(Am.getD 0 default) ^^^ 16842784,(Am.getD 1 default),(Am.getD 2 default),(Am.getD 3 default),(Am.getD 4 default),(Am.getD 5 default),(Am.getD 6 default),(Am.getD 7 default)],v2,R48) ⟨hp9,le49,h50⟩ ⟨z,z,z,trivial⟩ (pk 1 [0]) (fun _ h=>by cases h.1) fun k47 s hM53 => ?_
  obtain ⟨p_40,many_41,c_42,g46,R43⟩:=s
  have hm52:Dh (k47+1) p_40 many_41 c_42=some p4:=hM53.1
  have le44:Le R R43:=hM53.2.1
  have hf45:RoS R43 g46 1 (fun x=>[vY x]) p_40:=hM53.2.2
  rw [Dh] at hm52
  refine c_seq (csr ?_)
  refine r_mv z ?_
  refine r_u (o_lenR Tryz.underlying131 z hf45) (r_bin z z (bI_gt _ 64) ?_)
  refine nsq ?_
  refine c_if (b:=decide (64<(p_40.length:Int))) z (fun h54 => ?_) fun h54 => ?_
  rotate_left
  ·have hm55:=iff_ hm52 h54
   refine c_exit (x_exit (ks':=_) z ?_)
   obtain rfl:=si hm55
   exact x_sub (K11 _ le44 g46 hf45) ⟨z,z,z,trivial⟩ (pk 1 [0])
  have hm55:=ift hm52 h54
  refine c_skip (x_seq (c_blk (csr ?_)))
  refine r_mv z (r_bin z z (bW_add _ 64) (r_as z ?_))
  refine r_nil (x_seq (c_seq ?_))
  obtain ⟨l56,hl56,hm57⟩:=bs hm55
  obtain ⟨r58,hr58,hm59⟩:=bs hm57
  refine c_any mixed (effs:=[5]) (V:=[]) ?_
  refine stn [0,0,2,0,15,31] [0,1,2,3,4] [5] [_,_,_,_,_] (q_u z z (o_ldn 0 [vD (c_42.getD 0 default),vD (c_42.getD 1 default),vD (c_42.getD 2 default),vD (c_42.getD 3 default),vD (c_42.getD 4 default),vD (c_42.getD 5 default),vD (c_42.getD 6 default),vD (c_42.getD 7 default)] ag129 z z z z) (q_mv z z z (q_u z z (o_slRh Tryz.underlying131 (fun _=>by kernel_rfl) z z hf45 hl56) (q_mv z z z (q_u z z (o_callq ca63 z (C0.ok _ (sd g46 0 (64:Int).toNat) _ (RoS.cut hf45 hl56) _ _ _ hr58)) qn))))) ?_ (nxt z)
  refine ec (eo_u z (s_u (o_stn ag129 z z z z z z z)) le_ ?_) en
  refine stage z z z z [0,0,2,0,15,31] [] [] z z z qn en ?_
  intro _
  refine ex_sub (E':=[(3,pt b0 0),(4,g46),(5,vW (many_41+64))]) ⟨z,z,z,trivial⟩ ?_
  refine x_seq (c_reg ?_)
  refine r_mv z ?_
  obtain ⟨l60,hl60,hm61⟩:=bs hm59
  refine r_u (o_slRl Tryz.underlying131 (fun _=>by kernel_rfl) z z hf45 hl60) (r_as z ?_)
  refine r_nil (x_blk ?_)
  exact x_lp (l60,many_41+64,r58,(sd g46 (64:Int).toNat (p_40.length:Int).toNat),R43) ⟨hm61,le44,(RoS.cut hf45 hl60)⟩ ⟨z,z,z,trivial⟩ (pk 1 [0])
 intro R5 le6 g8 hf7
 refine x_seq (csr ?_)
 refine r_mv z (r_mv z ?_)
 refine r_u (o_lenR Tryz.underlying131 z hf7) (r_u (o_cv z (cIW Tryz.underlying3 Tryz.underlying22 (p4.1.length:Int))) (r_bin z z (bW_add _ _) (r_as z ?_)))
 refine nsr ?_
 refine r_new (o_al ze133) fun b12 => ?_
 refine nsr ?_
 refine rl_st (fun _ h=>st_arrS (f:=vY) (q:=List.replicate 64 0) z z h) ?_
 refine r_u (o_slA Tryz.underlying133 (fun _=>by kernel_rfl) z) (r_mv z ?_)
 obtain ⟨l13,hl13,hm14⟩:=bs hm10
 refine r_u (o_cp Tryz.underlying131 z z (fun _=>⟨_,z,z⟩) z z z hf7 hl13) ?_
 refine r_nil (x_seq (c_seq ?_))
 refine cd_ex (fun w h=>st_freeze w h) fun R15 hf18 => ?_
 obtain ⟨le16,h17⟩:=hf18
 obtain ⟨r19,hr19,hm20⟩:=bs hm14
 refine c_any mixed (effs:=[4]) (V:=[]) ?_
 refine stn [0,0,0,7,15] [0,1,2,3] [4] [_,_,_,_] (q_u z z (o_ldn 0 [vD (p4.2.2.getD 0 default),vD (p4.2.2.getD 1 default),vD (p4.2.2.getD 2 default),vD (p4.2.2.getD 3 default),vD (p4.2.2.getD 4 default),vD (p4.2.2.getD 5 default),vD (p4.2.2.getD 6 default),vD (p4.2.2.getD 7 default)] ag129 z z z z) (q_u z z (o_slA Tryz.underlying133 (fun _=>by kernel_rfl) z) (q_mv z z z (q_u z z (o_callq ca63 z (C0.ok _ (.slice (some ⟨b12,0,none⟩) 64 64) _ h17 _ _ _ hr19)) qn)))) ?_ (nxt z)
 refine ec (eo_u z (s_u (o_stn ag129 z z z z z z z)) le_ ?_) en
 refine stage z z z z [0,0,0,7,15] [] [] z z z qn en ?_
 intro _
 refine ex_sub (E':=[(3,pt b0 0)]) ⟨z,trivial⟩ ?_
 refine x_seq (csr ?_)
 refine r_as z ?_
 refine nssr ?_
 refine r_u (o_ldn 0 [vD (r19.getD 0 default),vD (r19.getD 1 default),vD (r19.getD 2 default),vD (r19.getD 3 default),vD (r19.getD 4 default),vD (r19.getD 5 default),vD (r19.getD 6 default),vD (r19.getD 7 default)] ag129 z z z z) (r_mv z ?_)
 refine nsq ?_
 obtain ⟨p21,hp23,hm24⟩:=bs hm20
 refine cd_cut (fun x ks=>∀(g22:Value),EX x .normal ks [(7,g22)] R15 (Bk b0 129 [vD (r19.getD 0 default),vD (r19.getD 1 default),vD (r19.getD 2 default),vD (r19.getD 3 default),vD (r19.getD 4 default),vD (r19.getD 5 default),vD (r19.getD 6 default),vD (r19.getD 7 default)]::OwS true 5 1 eY g22 p21::F)) ?_ fun K25 => ?_
 ·intro g22
  refine x_seq (csr ?_)
  refine r_mv z ?_
  refine r_u (o_bs 1 Tryz.underlying131 Tryz.underlying5 Tryz.underlying9 z z) (r_as z ?_)
  refine r_nil (x_seq (c_ret ?_))
  obtain rfl:=si hm24
  refine ex_st (pk 2 []) ?_
  exact x_r1 z (rv_t z) (Le.trans le6 le16) ⟨_,z,z,trivial,z⟩
 refine c_blk ?_
 refine cd_st (fun _ h=>st_nil (ap:=true) (T:=5) (sz:=1) (en:=eY) h) ?_
 refine cd_loopG (M:=fun k29 (s:List UInt8×Int×Value)=>C8 r19 k29 s.1 s.2.1=some p21) (Ef:=fun (s:List UInt8×Int×Value)=>[(41,.agg [vD (r19.getD 0 default),vD (r19.getD 1 default),vD (r19.getD 2 default),vD (r19.getD 3 default),vD (r19.getD 4 default),vD (r19.getD 5 default),vD (r19.getD 6 default),vD (r19.getD 7 default)].toArray),(7,s.2.2),(42,vI s.2.1)]) (Rf:=fun (s:List UInt8×Int×Value)=>R15) (Lf:=fun (s:List UInt8×Int×Value)=>Bk b0 129 [vD (r19.getD 0 default),vD (r19.getD 1 default),vD (r19.getD 2 default),vD (r19.getD 3 default),vD (r19.getD 4 default),vD (r19.getD 5 default),vD (r19.getD 6 default),vD (r19.getD 7 default)]::OwS true 5 1 eY s.2.2 s.1::F) 9 ([],0,.slice none 0 0) hp23 ⟨z,z,z,trivial⟩ (pk 2 [1,0]) (fun _ h=>by cases h) fun k29 s hM31 => ?_
 obtain ⟨out_26,s_27,g28⟩:=s
 have hm30:C8 r19 (k29+1) out_26 s_27=some p21:=hM31
 rw [C8] at hm30
 refine csr ?_
 refine r_bin z z (bI_lt _ 8) ?_
 refine r_nil (x_seq (c_seq ?_))
 refine c_if (b:=decide (s_27<8)) z (fun h32 => ?_) fun h32 => ?_
 rotate_left
 ·have hm33:=iff_ hm30 h32
  refine c_exit (x_exit (ks':=_) z ?_)
  obtain rfl:=si hm33
  exact x_sub (K25 g28) ⟨z,trivial⟩ (pk 2 [0,1])
 have hm33:=ift hm30 h32
 refine c_skip (x_seq (c_seq (c_blk (csr ?_))))
 obtain ⟨x34,hx34,hm35⟩:=bs hm33
 refine r_u (o_ixN (f:=vD) hx34 Tryz.underlying129 (fun _=>by kernel_rfl) sc128.1 z z z) (r_as z ?_)
 refine r_nil (x_seq (c_reg ?_))
 refine r_mv z (r_mv z (r_u (o_cv z (cDY Tryz.underlying128 Tryz.underlying5 x34)) (r_mv z (r_bin z z (bDW_shr x34 8) (r_u (o_cv z (cDY Tryz.underlying128 Tryz.underlying5 (shDr x34 ((8:UInt64).toNat:Int)))) (r_mv z (r_bin z z (bDW_shr x34 16) (r_u (o_cv z (cDY Tryz.underlying128 Tryz.underlying5 (shDr x34 ((16:UInt64).toNat:Int)))) (r_mv z (r_bin z z (bDW_shr x34 24) (r_u (o_cv z (cDY Tryz.underlying128 Tryz.underlying5 (shDr x34 ((24:UInt64).toNat:Int)))) ?_)))))))))))
 refine r_sw (s_w (o_bsl (en:=eY) (sz:=1) (e:=5) (cs:=[vY x34.toUInt8,vY ((shDr x34 ((8:UInt64).toNat:Int)).toUInt8),vY ((shDr x34 ((16:UInt64).toNat:Int)).toUInt8),vY ((shDr x34 ((24:UInt64).toNat:Int)).toUInt8)]) (r:=[x34.toUInt8,(shDr x34 ((8:UInt64).toNat:Int)).toUInt8,(shDr x34 ((16:UInt64).toNat:Int)).toUInt8,(shDr x34 ((24:UInt64).toNat:Int)).toUInt8]) z (fun _=>by kernel_rfl) z (by decide) z (fun _=>z))) ?_
 rintro v36 R15 _ _ ⟨rfl,rfl⟩
 obtain ⟨l38,hl38,hm39⟩:=bs hm35
 refine rl_st (fun _ h=>mv2 h) ?_
 refine r_sw (s_w (o_ap (sz:=1) (bytes:=1) 0 Tryz.underlying131 z z z z z (by decide) (by decide) (fun _ _ _ h=>by simp at h;subst h;rfl) (fun _=>z) z z z z (Nat.succ_pos _) hl38)) ?_
 rintro v37 R15 _ _ ⟨rfl,rfl⟩
 refine r_as z ?_
 refine r_nil (x_blk (x_seq (c_reg ?_)))
 refine r_bin z z (bI_add _ 1) (r_mv z ?_)
 refine r_nil ?_
 exact x_lp (l38,i64 (s_27+1),v37) hm39 ⟨z,z,z,trivial⟩ (pk 3 [2,0])
def Bq(a0:Ad):Option Str :=
 (AG a0).bind fun r7=>(Dt r7).bind fun r9=>some r9
theorem Bq.ok{G R F}(b0_:Nat)(a0:Ad)(g0_:Ad.G)(r:Str)(hm:Bq a0=some r):CO Tryz.prog 32 [pt b0_ 0] G R (Bk b0_ 96 (Ad.k a0 g0_)::rO (Ah.op g0_.t.2) g0_.t.1 a0.t::rO (Ac.op g0_.p.2) g0_.p.1 a0.p::OwM vW Ap.v g0_.sessions a0.sessions::F)
  (Ret fun u R' L'=>u=vS r∧True∧L'=Bk b0_ 96 (Ad.k a0 g0_)::rO (Ah.op g0_.t.2) g0_.t.1 a0.t::rO (Ac.op g0_.p.2) g0_.p.1 a0.p::OwM vW Ap.v g0_.sessions a0.sessions::F):=by
 obtain ⟨⟨pv1,g2⟩,⟨pv4,g5⟩,g6⟩:=g0_
 unfold Bq at hm
 refine co_ofN (N:=6) Tryz.func32 z z ?_
 refine csr ?_
 refine r_as z ?_
 refine nsr ?_
 refine r_mv z ?_
 obtain ⟨r7,hr7,hm8⟩:=bs hm
 refine r_c (s_w (o_call ca25 z (AG.ok b0_ a0 (⟨(pv1,g2),(pv4,g5),g6⟩:Ad.G) _ hr7))) ?_
 obtain ⟨r9,hr9,hm12⟩:=bs hm8
 refine r_sw (s_w (o_call ca33 z (Dt.ok r7 _ hr9))) ?_
 rintro _ R10 _ le11 ⟨rfl,_,rfl⟩
 refine r_as z ?_
 refine r_nil (x_seq (c_ret ?_))
 obtain rfl:=si hm12
 exact x_r1 z (rv_t z) le11 ⟨_,z,z,trivial,z⟩
def Bb(a2:List Az):Nat→UInt64→(Option Ad)→(Option Ad)→Int→Ad→Option ((Option Ad×Option Ad×Ad)⊕Bool)
 | 0,_,_,_,_,_=>none
 | k111+1,now_92,t_93,u_94,i_95,c_96=>if (decide (i_95<(a2.length:Int))&&decide (i_95<60)) then (gi a2 i_95).bind fun x116=>(Bj (AU c_96) now_92 x116).bind fun r118=>(AF c_96 r118.1).bind fun r121=>om t_93 (none) fun x132=>(AF x132 r118.1).bind fun r143=>om u_94 (none) fun x154=>(AF x154 r118.1).bind fun r165=>Option.bind (if (((!(decide (r121.1=r143.1)) || !(decide (r121.1=r165.1)))||(r121.2.1 != r143.2.1))||(r121.2.1 != r165.2.1)) then some true else some ((AU r121.2.2) != (AU r143.2.2))) fun p176=>if p176 then some (Sum.inr false) else Bb a2 k111 r118.2 (some r143.2.2) (some r165.2.2) (i64 (i_95+1)) r121.2.2 else some (Sum.inl (t_93,u_94,c_96))
def BS(a0:Av)(a1:List Az)(a2:List Az):Option Bool :=
 (B4 a0 a1).bind fun r1=>om r1.1 (none) fun x6=>(AG x6).bind fun r17=>(Cf r17).bind fun r19=>(Cw x6).bind fun r24=>(Cq).bind fun r29=>if ((!r29 || !r1.2.2)||(r19.2 != 0)) then some false else Option.bind (Bb a2 (((a2.length:Int)-0).toNat+1) r1.2.1 r19.1 r24 0 x6) fun (p33:(Option Ad×Option Ad×Ad)⊕Bool)=>(match p33 with | Sum.inl q34=>(AG q34.2.2).bind fun r52=>om q34.1 (none) fun x54=>(AG x54).bind fun r65=>if (r52==r65) then om q34.2.1 (none) fun x69=>(AG x69).bind fun r80=>if (r52==r80) then (Bq q34.2.2).bind fun r84=>(Bq x54).bind fun r88=>some (r84==r88) else some false else some false | Sum.inr r=>some r)
theorem BS.ok{G R F}(a0:Av)(v1_:Value)(a1:List Az)(h1_:RoS R v1_ 9 Az.c a1)(v2_:Value)(a2:List Az)(h2_:RoS R v2_ 9 Az.c a2)(r:Bool)(hm:BS a0 a1 a2=some r):CO Tryz.prog 9 [.agg (Av.c a0).toArray,v1_,v2_] G R (F)
  (Ret fun u R' L'=>u=vB r∧True∧L'=F):=by
 unfold BS at hm
 refine co_ofN (N:=131) Tryz.func9 z z ?_
 refine csr ?_
 refine r_new (o_bx (Av.c a0) z z) fun b0 => ?_
 refine r_as z ?_
 refine nsr ?_
 refine r_u (o_ldn 0 (Av.c a0) ag24 z z z z) (r_mv z ?_)
 obtain ⟨r1,hr1,hm5⟩:=bs hm
 refine r_sw (s_w (o_call ca11 z (B4.ok a0 v1_ a1 h1_ _ hr1))) ?_
 rintro _ R _ _ ⟨⟨pv3,g4⟩,rfl,rfl,rfl⟩
 refine r_mv z ?_
 refine r_ext z z ?_
 refine r_ext z z ?_
 refine r_ext z z (r_as z (r_as z (r_as z ?_)))
 refine r_nil (x_seq (c_seq ?_))
 refine cd_opt (fun ho8 => ?_) (fun x6 b7 ho8 => ?_)
 ·rintro rfl
  have hm9:=om_n hm5 ho8
  cases hm9
 rintro rfl
 have hm9:=om_s hm5 ho8
 obtain ⟨⟨pv11,g12⟩,⟨pv14,g15⟩,g16⟩:=g4
 refine cd_st (fun _ h=>st_star_o h) ?_
 refine c_reg ?_
 refine r_mv z ?_
 obtain ⟨r17,hr17,hm18⟩:=bs hm9
 refine r_c (s_w (o_call ca25 z (AG.ok b7 x6 (⟨(pv11,g12),(pv14,g15),g16⟩:Ad.G) _ hr17))) ?_
 obtain ⟨r19,hr19,hm23⟩:=bs hm18
 refine r_sw (s_w (o_call ca31 z (Cf.ok _ _ hr19))) ?_
 rintro _ R _ _ ⟨⟨pv21,g22⟩,rfl,rfl,rfl⟩
 refine r_mv z ?_
 refine r_ext z z ?_
 refine r_ext z z (r_as z (r_as z ?_))
 refine nsr ?_
 refine r_mv z ?_
 obtain ⟨r24,hr24,hm28⟩:=bs hm23
 refine rl_st (fun _ h=>mv4 (mv4 (mv4 (mv4 h)))) ?_
 refine r_sw (s_w (o_call ca28 z (Cw.ok b7 x6 (⟨(pv11,g12),(pv14,g15),g16⟩:Ad.G) _ hr24))) ?_
 rintro pv26 R _ _ ⟨⟨_,g27⟩,rfl,rfl,rfl⟩
 refine r_as z ?_
 refine nssr ?_
 obtain ⟨r29,hr29,hm30⟩:=bs hm28
 refine r_u (o_callq ca12 z (Cq.ok _ hr29)) ?_
 refine r_u (o_not z) (r_mv z ?_)
 refine r_s (s_gf z z fun g=>o_mv z) ?_
 refine r_s (s_gf z z fun g=>o_not (evg z g)) ?_
 refine r_u (o_or z z) (r_mv z ?_)
 refine r_s (s_gf z z fun g=>o_mv z) ?_
 refine r_s (s_gf z z fun g=>o_bin (evg z g) z (bI_ne _ 0)) ?_
 refine r_u (o_or z z) ?_
 refine nsq ?_
 refine c_if (b:=((!r29 || !r1.2.2)||(r19.2 != 0))) z (fun h31 => ?_) fun h31 => ?_
 ·have hm32:=ift hm30 h31
  refine csr ?_
  refine r_as z ?_
  refine r_nil (x_seq (c_ret ?_))
  obtain rfl:=si hm32
  refine ex_st (pk 7 []) ?_
  exact x_r1 z (rv_t z) le_ ⟨_,z,z,trivial,z⟩
 have hm32:=iff_ hm30 h31
 refine c_skip (x_seq (c_seq (csr ?_)))
 refine r_as z ?_
 refine nsq ?_
 obtain ⟨p33,hp49,hm50⟩:=bs hm32
 refine cd_cut (fun x ks=>∀(q34:Option Ad×Option Ad×Ad),∀(_:p33=Sum.inl q34),∀(pv35:Value×Ad.G),∀(pv38:Value×Ad.G),∀(g41:Ad.G),EX x .normal ks [(7,pt b7 0),(10,pv35.1),(12,pv38.1)] R (Bk b7 96 (Ad.k q34.2.2 g41)::Bk b0 24 (Av.c a0)::rO (Ad.op pv35.2) pv35.1 q34.1::rO (Ad.op pv38.2) pv38.1 q34.2.1::rO (Ah.op g41.t.2) g41.t.1 q34.2.2.t::rO (Ac.op g41.p.2) g41.p.1 q34.2.2.p::OwM vW Ap.v g41.sessions q34.2.2.sessions::F)) ?_ fun K51 => ?_
 ·intro q34 hq pv35 pv38 g41
  subst hq
  try dsimp only at hm50
  obtain ⟨pv36,g37⟩:=pv35
  obtain ⟨pv39,g40⟩:=pv38
  obtain ⟨⟨pv43,g44⟩,⟨pv46,g47⟩,g48⟩:=g41
  refine x_seq (c_seq ?_)
  obtain ⟨r52,hr52,hm53⟩:=bs hm50
  refine cd_st (fun _ h=>mv2 h) ?_
  refine cd_opt (fun ho56 => ?_) (fun x54 b55 ho56 => ?_)
  ·rintro rfl
   have hm57:=om_n hm53 ho56
   cases hm57
  rintro rfl
  have hm57:=om_s hm53 ho56
  obtain ⟨⟨pv59,g60⟩,⟨pv62,g63⟩,g64⟩:=g37
  refine cd_st (fun _ h=>st_star_o h) ?_
  obtain ⟨r65,hr65,hm66⟩:=bs hm57
  refine cd_by (r52==r65) (fun h67 => ?_) fun h67 => ?_
  rotate_left
  ·have hm68:=iff_ hm66 h67
   refine c_reg ?_
   refine r_mv z ?_
   refine rl_st (fun _ h=>mv7 (mv9 (mv9 (mv9 h)))) ?_
   refine r_c (s_w (o_call ca25 z (AG.ok b7 _ (⟨(pv43,g44),(pv46,g47),g48⟩:Ad.G) _ hr52))) ?_
   refine r_mv z ?_
   refine rl_st (fun _ h=>mv7 (mv7 (mv7 (mv7 h)))) ?_
   refine r_c (s_w (o_call ca25 z (AG.ok b55 _ (⟨(pv59,g60),(pv62,g63),g64⟩:Ad.G) _ hr65))) ?_
   refine r_bin z z (bS_eq _ _) (r_mv z ?_)
   refine r_s (s_n z z h67) ?_
   refine r_s (s_n z z h67) ?_
   refine r_s (s_n z z h67) ?_
   refine r_s (s_n z z h67) ?_
   refine r_s (s_n z z h67) ?_
   refine r_u (o_pf z h67 z) (r_mv z ?_)
   refine r_s (s_n z z z) ?_
   refine r_s (s_n z z z) ?_
   refine r_s (s_n z z z) ?_
   refine r_s (s_n z z z) ?_
   refine r_s (s_n z z z) ?_
   refine r_u (o_pf z z z) (r_as z ?_)
   refine r_nil (x_seq (c_ret ?_))
   obtain rfl:=si hm68
   refine ex_st (pk 10 []) ?_
   exact x_r1 z (rv_t z) le_ ⟨_,z,z,trivial,z⟩
  have hm68:=ift hm66 h67
  refine cd_st (fun _ h=>mv6 h) ?_
  refine cd_opt (fun ho71 => ?_) (fun x69 b70 ho71 => ?_)
  ·rintro rfl
   have hm72:=om_n hm68 ho71
   cases hm72
  rintro rfl
  have hm72:=om_s hm68 ho71
  obtain ⟨⟨pv74,g75⟩,⟨pv77,g78⟩,g79⟩:=g40
  refine cd_st (fun _ h=>st_star_o h) ?_
  obtain ⟨r80,hr80,hm81⟩:=bs hm72
  refine cd_by (r52==r80) (fun h82 => ?_) fun h82 => ?_
  ·have hm83:=ift hm81 h82
   refine c_reg ?_
   refine r_mv z ?_
   refine rl_st (fun _ h=>mv11 (mv12 (mv12 (mv12 h)))) ?_
   refine r_c (s_w (o_call ca25 z (AG.ok b7 _ (⟨(pv43,g44),(pv46,g47),g48⟩:Ad.G) _ hr52))) ?_
   refine r_mv z ?_
   refine rl_st (fun _ h=>mv11 (mv11 (mv11 (mv11 h)))) ?_
   refine r_c (s_w (o_call ca25 z (AG.ok b55 _ (⟨(pv59,g60),(pv62,g63),g64⟩:Ad.G) _ hr65))) ?_
   refine r_bin z z (bS_eq _ _) (r_mv z ?_)
   refine r_s (s_y z z h67 (o_mv z)) ?_
   refine rl_st (fun _ h=>mv7 (mv7 (mv7 (mv7 h)))) ?_
   refine r_c (s_yw z z h67 (o_call ca25 z (AG.ok b7 _ (⟨(pv43,g44),(pv46,g47),g48⟩:Ad.G) _ hr52))) ?_
   refine r_s (s_y z z h67 (o_mv z)) ?_
   refine rl_st (fun _ h=>mv11 (mv11 (mv11 (mv11 h)))) ?_
   refine r_c (s_yw z z h67 (o_call ca25 z (AG.ok b70 _ (⟨(pv74,g75),(pv77,g78),g79⟩:Ad.G) _ hr80))) ?_
   refine r_s (s_y z z h67 (o_bin z z (bS_eq _ _))) ?_
   refine r_u (o_pt z h67 z) (r_mv z ?_)
   refine r_s (s_y z z h82 (o_mv z)) ?_
   obtain ⟨r84,hr84,hm87⟩:=bs hm83
   refine rl_st (fun _ h=>mv7 (mv7 (mv7 (mv7 h)))) ?_
   refine r_sw (s_yw z z h82 (o_call ca32 z (Bq.ok b7 _ (⟨(pv43,g44),(pv46,g47),g48⟩:Ad.G) _ hr84))) ?_
   rintro _ R85 _ le86 ⟨rfl,_,rfl⟩
   refine r_s (s_y z z h82 (o_mv z)) ?_
   obtain ⟨r88,hr88,hm91⟩:=bs hm87
   refine rl_st (fun _ h=>mv11 (mv11 (mv11 (mv11 h)))) ?_
   refine r_sw (s_yw z z h82 (o_call ca32 z (Bq.ok b55 _ (⟨(pv59,g60),(pv62,g63),g64⟩:Ad.G) _ hr88))) ?_
   rintro _ R89 _ le90 ⟨rfl,_,rfl⟩
   refine r_s (s_y z z h82 (o_bin z z (bS_eq _ _))) ?_
   refine r_u (o_pt z h82 z) (r_as z ?_)
   refine r_nil (x_seq (c_ret ?_))
   obtain rfl:=si hm91
   refine ex_st (pk 13 []) ?_
   exact x_r1 z (rv_t z) (Le.trans le86 le90) ⟨_,z,z,trivial,z⟩
  have hm83:=iff_ hm81 h82
  refine c_reg ?_
  refine r_mv z ?_
  refine rl_st (fun _ h=>mv11 (mv12 (mv12 (mv12 h)))) ?_
  refine r_c (s_w (o_call ca25 z (AG.ok b7 _ (⟨(pv43,g44),(pv46,g47),g48⟩:Ad.G) _ hr52))) ?_
  refine r_mv z ?_
  refine rl_st (fun _ h=>mv11 (mv11 (mv11 (mv11 h)))) ?_
  refine r_c (s_w (o_call ca25 z (AG.ok b55 _ (⟨(pv59,g60),(pv62,g63),g64⟩:Ad.G) _ hr65))) ?_
  refine r_bin z z (bS_eq _ _) (r_mv z ?_)
  refine r_s (s_y z z h67 (o_mv z)) ?_
  refine rl_st (fun _ h=>mv7 (mv7 (mv7 (mv7 h)))) ?_
  refine r_c (s_yw z z h67 (o_call ca25 z (AG.ok b7 _ (⟨(pv43,g44),(pv46,g47),g48⟩:Ad.G) _ hr52))) ?_
  refine r_s (s_y z z h67 (o_mv z)) ?_
  refine rl_st (fun _ h=>mv11 (mv11 (mv11 (mv11 h)))) ?_
  refine r_c (s_yw z z h67 (o_call ca25 z (AG.ok b70 _ (⟨(pv74,g75),(pv77,g78),g79⟩:Ad.G) _ hr80))) ?_
  refine r_s (s_y z z h67 (o_bin z z (bS_eq _ _))) ?_
  refine r_u (o_pt z h67 z) (r_mv z ?_)
  refine r_s (s_n z z h82) ?_
  refine r_s (s_n z z h82) ?_
  refine r_s (s_n z z h82) ?_
  refine r_s (s_n z z h82) ?_
  refine r_s (s_n z z h82) ?_
  refine r_u (o_pf z h82 z) (r_as z ?_)
  refine r_nil (x_seq (c_ret ?_))
  obtain rfl:=si hm83
  refine ex_st (pk 13 []) ?_
  exact x_r1 z (rv_t z) le_ ⟨_,z,z,trivial,z⟩
 refine c_blk ?_
 refine cd_loopG (M:=fun k111 (s:UInt64×Option Ad×Option Ad×Int×Ad×(Value×Ad.G)×(Value×Ad.G)×Ad.G)=>Bb a2 k111 s.1 s.2.1 s.2.2.1 s.2.2.2.1 s.2.2.2.2.1=some p33) (Ef:=fun (s:UInt64×Option Ad×Option Ad×Int×Ad×(Value×Ad.G)×(Value×Ad.G)×Ad.G)=>[(2,v2_),(7,pt b7 0),(8,vW s.1),(10,s.2.2.2.2.2.1.1),(12,s.2.2.2.2.2.2.1.1),(13,vI s.2.2.2.1)]) (Rf:=fun (s:UInt64×Option Ad×Option Ad×Int×Ad×(Value×Ad.G)×(Value×Ad.G)×Ad.G)=>R) (Lf:=fun (s:UInt64×Option Ad×Option Ad×Int×Ad×(Value×Ad.G)×(Value×Ad.G)×Ad.G)=>Bk b7 96 (Ad.k s.2.2.2.2.1 s.2.2.2.2.2.2.2)::Bk b0 24 (Av.c a0)::rO (Ad.op s.2.2.2.2.2.1.2) s.2.2.2.2.2.1.1 s.2.1::rO (Ad.op s.2.2.2.2.2.2.1.2) s.2.2.2.2.2.2.1.1 s.2.2.1::rO (Ah.op s.2.2.2.2.2.2.2.t.2) s.2.2.2.2.2.2.2.t.1 s.2.2.2.2.1.t::rO (Ac.op s.2.2.2.2.2.2.2.p.2) s.2.2.2.2.2.2.2.p.1 s.2.2.2.2.1.p::OwM vW Ap.v s.2.2.2.2.2.2.2.sessions s.2.2.2.2.1.sessions::F) (((a2.length:Int)-0).toNat+1) (r1.2.1,r19.1,r24,0,x6,(pv21,g22),(pv26,g27),(⟨(pv11,g12),(pv14,g15),g16⟩:Ad.G)) hp49 ⟨z,z,z,z,z,z,trivial⟩ (pk 7 [1,6,5,0,2,3,4]) (fun _ h=>by cases h) fun k111 s hM113 => ?_
 obtain ⟨now_92,t_93,u_94,i_95,c_96,pv97,pv100,g103⟩:=s
 have hm112:Bb a2 (k111+1) now_92 t_93 u_94 i_95 c_96=some p33:=hM113
 rw [Bb] at hm112
 obtain ⟨pv98,g99⟩:=pv97
 obtain ⟨pv101,g102⟩:=pv100
 obtain ⟨⟨pv105,g106⟩,⟨pv108,g109⟩,g110⟩:=g103
 refine c_seq (csr ?_)
 refine r_mv z (r_mv z ?_)
 refine r_u (o_lenR Tryz.underlying25 z h2_) (r_bin z z (bI_lt _ _) (r_mv z ?_))
 refine r_s (s_gt z z fun g=>o_mv z) ?_
 refine r_s (s_gt z z fun g=>o_bin (evg z g) z (bI_lt _ 60)) ?_
 refine r_u (o_and z z) ?_
 refine nsq ?_
 refine c_if (b:=(decide (i_95<(a2.length:Int))&&decide (i_95<60))) z (fun h114 => ?_) fun h114 => ?_
 rotate_left
 ·have hm115:=iff_ hm112 h114
  refine c_exit (x_exit (ks':=_) z ?_)
  obtain rfl:=si hm115
  exact x_sub (K51 _ z (pv98,g99) (pv101,g102) (⟨(pv105,g106),(pv108,g109),g110⟩:Ad.G)) ⟨z,z,z,trivial⟩ (pk 7 [0,1,2,3,4,5,6])
 have hm115:=ift hm112 h114
 refine c_skip (x_seq (c_seq (c_blk (c_seq ?_))))
 obtain ⟨x116,hx116,hm117⟩:=bs hm115
 obtain ⟨b116,o116,l116,T116,fr116,c116,hv116,hR116,he116,hi116⟩:=RoS.ne h2_ hx116
 obtain ⟨r118,hr118,hm119⟩:=bs hm117
 refine c_any mixed (effs:=[11,12]) (V:=[]) ?_
 refine stn mk21_ [0,1,2,3,4,5,6,7,8,9,10] [11] [_,_,_,_,_,_,_,_,_,_,_] (q_mv z z z (q_u z z (o_callqP ca14 z (AU.ok b7 c_96 (⟨(pv105,g106),(pv108,g109),g110⟩:Ad.G) _ z) (pk 7 [0,4,5,6,1,2,3]) (pk 7 [0,4,5,6,1,2,3])) (q_mv z z z (q_mv z z z (q_mv z z z (q_u z z (o_ix (sz:=9) Tryz.underlying25 (fun _=>by kernel_rfl) z z hv116 hi116) (q_u z z (o_ldnR (Az.c x116) ag29 z hR116 he116 z) (q_u z z (o_callq ca13 z (Bj.ok _ _ _ _ hr118)) (q_mv z z z (q_u z z (o_ext z z) (q_u z z (o_ext z z) qn))))))))))) ?_ (nxt z)
 refine ec (eo_n z (s_w (o_al ze35)) fun b120 => ?_) en
 refine stage z z z z mk21_ [0,1,2,3,4,5,6,7,8,9,10] [12] z z z (q_mv z z z (q_u z z (o_callqP ca14 z (AU.ok b7 c_96 (⟨(pv105,g106),(pv108,g109),g110⟩:Ad.G) _ z) (pk 8 [1,5,6,7,0,2,3,4]) (pk 8 [4,0,5,6,7,1,2,3])) (q_mv z z z (q_mv z z z (q_mv z z z (q_u z z (o_ix (sz:=9) Tryz.underlying25 (fun _=>by kernel_rfl) z z hv116 hi116) (q_u z z (o_ldnR (Az.c x116) ag29 z hR116 he116 z) (q_u z z (o_callq ca13 z (Bj.ok _ _ _ _ hr118)) (q_mv z z z (q_u z z (o_ext z z) (q_u z z (o_ext z z) qn))))))))))) ?_ (nxt z)
 refine ec (eo_u z (s_u (o_stn ag35 z z z z z z z)) le_ ?_) en
 refine stx [13] mk21_ [10,13] [] [_] (q_u z z (o_ext z z) (q_u z z (o_as z) qn)) en ?_
 intro _
 refine ex_sub (E':=[(2,v2_),(7,pt b7 0),(10,pv98),(12,pv101),(13,vI i_95),(14,pt b120 0),(15,vW r118.2)]) ⟨z,z,z,z,z,z,z,trivial⟩ ?_
 refine x_seq (csr ?_)
 refine r_mv z (r_as z ?_)
 refine nsr ?_
 refine r_mv z ?_
 refine r_u (o_ldn 0 (AM.c r118.1) ag35 z z z z) ?_
 obtain ⟨r121,hr121,hm130⟩:=bs hm119
 refine rl_st (fun _ h=>mv4 (mv7 (mv7 (mv7 h)))) ?_
 refine r_sw (s_w (o_call ca15 z (AF.ok b7 _ (⟨(pv105,g106),(pv108,g109),g110⟩:Ad.G) _ _ hr121))) ?_
 rintro _ R _ _ ⟨⟨⟨pv124,g125⟩,⟨pv127,g128⟩,g129⟩,rfl,rfl,rfl⟩
 refine r_mv z ?_
 refine r_ext z z ?_
 refine r_ext z z ?_
 refine r_new (o_al ze41) fun b131 => ?_
 refine r_u0 (o_stn ag41 z z z z z z z) ?_
 refine r_as z ?_
 refine r_nil (x_seq (c_seq ?_))
 refine cd_st (fun _ h=>mv7 h) ?_
 refine cd_opt (fun ho134 => ?_) (fun x132 b133 ho134 => ?_)
 ·rintro rfl
  have hm135:=om_n hm130 ho134
  cases hm135
 rintro rfl
 have hm135:=om_s hm130 ho134
 obtain ⟨⟨pv137,g138⟩,⟨pv140,g141⟩,g142⟩:=g99
 refine cd_st (fun _ h=>st_star_o h) ?_
 refine c_reg ?_
 refine r_mv z ?_
 refine r_u (o_ldn 9 (AM.c r118.1) ag35 z z z z) ?_
 obtain ⟨r143,hr143,hm152⟩:=bs hm135
 refine r_sw (s_w (o_call ca15 z (AF.ok b133 _ (⟨(pv137,g138),(pv140,g141),g142⟩:Ad.G) _ _ hr143))) ?_
 rintro _ R _ _ ⟨⟨⟨pv146,g147⟩,⟨pv149,g150⟩,g151⟩,rfl,rfl,rfl⟩
 refine r_mv z ?_
 refine r_ext z z ?_
 refine r_ext z z ?_
 refine r_new (o_al ze41) fun b153 => ?_
 refine r_u0 (o_stn ag41 z z z z z z z) ?_
 refine r_as z ?_
 refine r_nil (x_seq (c_seq ?_))
 refine cd_st (fun _ h=>mv12 h) ?_
 refine cd_opt (fun ho156 => ?_) (fun x154 b155 ho156 => ?_)
 ·rintro rfl
  have hm157:=om_n hm152 ho156
  cases hm157
 rintro rfl
 have hm157:=om_s hm152 ho156
 obtain ⟨⟨pv159,g160⟩,⟨pv162,g163⟩,g164⟩:=g102
 refine cd_st (fun _ h=>st_star_o h) ?_
 refine c_reg ?_
 refine r_mv z ?_
 refine r_u (o_ldn 14 (AM.c r118.1) ag35 z z z z) ?_
 obtain ⟨r165,hr165,hm174⟩:=bs hm157
 refine r_sw (s_w (o_call ca15 z (AF.ok b155 _ (⟨(pv159,g160),(pv162,g163),g164⟩:Ad.G) _ _ hr165))) ?_
 rintro _ R _ _ ⟨⟨⟨pv168,g169⟩,⟨pv171,g172⟩,g173⟩,rfl,rfl,rfl⟩
 refine r_mv z ?_
 refine r_ext z z ?_
 refine r_ext z z ?_
 refine r_new (o_al ze41) fun b175 => ?_
 refine r_u0 (o_stn ag41 z z z z z z z) ?_
 refine r_as z ?_
 refine r_nil (x_seq (c_seq ?_))
 obtain ⟨p176,hp177,hm178⟩:=bs hm174
 refine cd_join (E':=[(2,v2_),(7,pt b7 0),(8,vW r118.2),(10,pt b133 0),(12,pt b155 0),(13,vI i_95),(111,vB p176)]) (L':=Bk b175 41 (Ar.c r165.1)::Bk b155 96 [vI r165.2.2.c.Policy,vI r165.2.2.c.Entries,vI r165.2.2.c.Bytes,vW r165.2.2.c.Seed,pv168,pv171,g173,vW r165.2.2.seq,vW r165.2.2.now,vW r165.2.2.version,vI r165.2.2.tally.Asked,vI r165.2.2.tally.Hits]::Bk b153 41 (Ar.c r143.1)::Bk b133 96 [vI r143.2.2.c.Policy,vI r143.2.2.c.Entries,vI r143.2.2.c.Bytes,vW r143.2.2.c.Seed,pv146,pv149,g151,vW r143.2.2.seq,vW r143.2.2.now,vW r143.2.2.version,vI r143.2.2.tally.Asked,vI r143.2.2.tally.Hits]::Bk b131 41 (Ar.c r121.1)::Bk b7 96 [vI r121.2.2.c.Policy,vI r121.2.2.c.Entries,vI r121.2.2.c.Bytes,vW r121.2.2.c.Seed,pv124,pv127,g129,vW r121.2.2.seq,vW r121.2.2.now,vW r121.2.2.version,vI r121.2.2.tally.Asked,vI r121.2.2.tally.Hits]::Bk b120 35 (AM.c r118.1)::Bk b0 24 (Av.c a0)::rO (Ah.op g169) pv168 r165.2.2.t::rO (Ac.op g172) pv171 r165.2.2.p::OwM vW Ap.v g173 r165.2.2.sessions::rO (Ah.op g147) pv146 r143.2.2.t::rO (Ac.op g150) pv149 r143.2.2.p::OwM vW Ap.v g151 r143.2.2.sessions::rO (Ah.op g125) pv124 r121.2.2.t::rO (Ac.op g128) pv127 r121.2.2.p::OwM vW Ap.v g129 r121.2.2.sessions::F) ?_ fun K179 => ?_
 ·refine x_seq ?_
  refine c_if (b:=p176) z (fun h180 => ?_) fun h180 => ?_
  ·have hm181:=ift hm178 h180
   refine csr ?_
   refine r_as z ?_
   refine r_nil (x_seq (c_ret ?_))
   obtain rfl:=si hm181
   try dsimp only at hm50
   obtain rfl:=si hm50
   refine ex_st (pk 17 []) ?_
   exact x_r1 z (rv_t z) le_ ⟨_,z,z,trivial,z⟩
  have hm181:=iff_ hm178 h180
  refine c_skip (x_blk (x_seq (c_reg ?_)))
  refine r_mv z (r_bin z z (bI_add _ 1) (r_as z ?_))
  refine r_nil ?_
  refine ex_st (fun _ h=>mv6 (mv13 (mv13 (mv13 h)))) ?_
  refine ex_st (fun _ h=>st_some (f:=Ad.op (⟨(pv146,g147),(pv149,g150),g151⟩:Ad.G)) (a:=r143.2.2) (st_star_f (A:=Ad.fl b133 r143.2.2 (⟨(pv146,g147),(pv149,g150),g151⟩:Ad.G)) h)) ?_
  refine ex_st (fun _ h=>mv5 (mv10 (mv10 (mv10 h)))) ?_
  refine ex_st (fun _ h=>st_some (f:=Ad.op (⟨(pv168,g169),(pv171,g172),g173⟩:Ad.G)) (a:=r165.2.2) (st_star_f (A:=Ad.fl b155 r165.2.2 (⟨(pv168,g169),(pv171,g172),g173⟩:Ad.G)) h)) ?_
  exact x_lp (r118.2,(some r143.2.2),(some r165.2.2),i64 (i_95+1),r121.2.2,(pt b133 0,(⟨(pv146,g147),(pv149,g150),g151⟩:Ad.G)),(pt b155 0,(⟨(pv168,g169),(pv171,g172),g173⟩:Ad.G)),(⟨(pv124,g125),(pv127,g128),g129⟩:Ad.G)) hm181 ⟨z,z,z,z,z,z,trivial⟩ (pk 11 [5,7,1,0,8,9,10])
 refine cd_by (((!(decide (r121.1=r143.1)) || !(decide (r121.1=r165.1)))||(r121.2.1 != r143.2.1))||(r121.2.1 != r165.2.1)) (fun h182 => ?_) fun h182 => ?_
 ·have hm183:=ift hp177 h182
  refine c_reg ?_
  refine r_u (o_ldn 10 (Ar.c r121.1) ag41 z z z z) ?_
  refine r_u (o_ldn 5 (Ar.c r143.1) ag41 z z z z) (r_bin z z (Ar.bne_41 r121.1 r143.1) (r_mv z ?_))
  refine r_s (s_gf z z fun g=>o_ldn 10 (Ar.c r121.1) ag41 z z z z) ?_
  refine r_s (s_gf z z fun g=>o_ldn 0 (Ar.c r165.1) ag41 z z z z) ?_
  refine r_s (s_gf z z fun g=>o_bin (evg z g) (evg z g) (Ar.bne_41 r121.1 r165.1)) ?_
  refine r_u (o_or z z) (r_mv z ?_)
  refine r_s (s_gf z z fun g=>o_mv z) ?_
  refine r_s (s_gf z z fun g=>o_mv z) ?_
  refine r_s (s_gf z z fun g=>o_bin (evg z g) (evg z g) (bI_ne _ _)) ?_
  refine r_u (o_or z z) (r_mv z ?_)
  refine r_s (s_gf z z fun g=>o_mv z) ?_
  refine r_s (s_gf z z fun g=>o_mv z) ?_
  refine r_s (s_gf z z fun g=>o_bin (evg z g) (evg z g) (bI_ne _ _)) ?_
  refine r_u (o_or z z) (r_mv z ?_)
  refine r_s (s_n z z h182) ?_
  refine r_s (s_n z z h182) ?_
  refine r_s (s_n z z h182) ?_
  refine r_s (s_n z z h182) ?_
  refine r_s (s_n z z h182) ?_
  refine r_u (o_pt z h182 z) ?_
  refine r_nil ?_
  obtain rfl:=si hm183
  exact x_sub K179 ⟨z,z,z,z,z,z,z,trivial⟩ (pk 17 [0,1,5,6,10,11,15,16,2,3,4,7,8,9,12,13,14])
 have hm183:=iff_ hp177 h182
 refine c_reg ?_
 refine r_u (o_ldn 10 (Ar.c r121.1) ag41 z z z z) ?_
 refine r_u (o_ldn 5 (Ar.c r143.1) ag41 z z z z) (r_bin z z (Ar.bne_41 r121.1 r143.1) (r_mv z ?_))
 refine r_s (s_gf z z fun g=>o_ldn 10 (Ar.c r121.1) ag41 z z z z) ?_
 refine r_s (s_gf z z fun g=>o_ldn 0 (Ar.c r165.1) ag41 z z z z) ?_
 refine r_s (s_gf z z fun g=>o_bin (evg z g) (evg z g) (Ar.bne_41 r121.1 r165.1)) ?_
 refine r_u (o_or z z) (r_mv z ?_)
 refine r_s (s_gf z z fun g=>o_mv z) ?_
 refine r_s (s_gf z z fun g=>o_mv z) ?_
 refine r_s (s_gf z z fun g=>o_bin (evg z g) (evg z g) (bI_ne _ _)) ?_
 refine r_u (o_or z z) (r_mv z ?_)
 refine r_s (s_gf z z fun g=>o_mv z) ?_
 refine r_s (s_gf z z fun g=>o_mv z) ?_
 refine r_s (s_gf z z fun g=>o_bin (evg z g) (evg z g) (bI_ne _ _)) ?_
 refine r_u (o_or z z) (r_mv z ?_)
 refine r_s (s_y z z h182 (o_mv z)) ?_
 refine rl_st (fun _ h=>mv14 (mv14 (mv14 (mv14 h)))) ?_
 refine r_c (s_yw z z h182 (o_call ca14 z (AU.ok b7 r121.2.2 (⟨(pv124,g125),(pv127,g128),g129⟩:Ad.G) _ z))) ?_
 refine r_s (s_y z z h182 (o_mv z)) ?_
 refine rl_st (fun _ h=>mv13 (mv13 (mv13 (mv13 h)))) ?_
 refine r_c (s_yw z z h182 (o_call ca14 z (AU.ok b133 r143.2.2 (⟨(pv146,g147),(pv149,g150),g151⟩:Ad.G) _ z))) ?_
 refine r_s (s_y z z h182 (o_bin z z (bW_ne _ _))) ?_
 refine r_u (o_pf z h182 z) ?_
 refine r_nil ?_
 obtain rfl:=si hm183
 exact x_sub K179 ⟨z,z,z,z,z,z,z,trivial⟩ (pk 17 [8,9,13,0,14,4,15,16,10,11,12,1,2,3,5,6,7])
def CH(a0:Ay)(a1:Str)(i_6:Int):Nat→Int→Option (Unit⊕(Unit⊕(Unit⊕(Int×Bool))))
 | 0,_=>none
 | k23+1,k_22=>(gi a0.L i_6).bind fun x28=>if decide (k_22<(x28.length:Int)) then (gi x28 k_22).bind fun x33=>if (x33==a1) then some (Sum.inr (Sum.inr (Sum.inr (i_6,true)))) else CH a0 a1 i_6 k23 (i64 (k_22+1)) else some (Sum.inl ())
def Cb(a0:Ay)(a1:Str):Nat→Int→Option (Unit⊕(Int×Bool))
 | 0,_=>none
 | k7+1,i_6=>if decide (i_6<(a0.L.length:Int)) then Option.bind (Option.bind (CH a0 a1 i_6 1100 0) fun (p17:Unit⊕(Unit⊕(Unit⊕(Int×Bool))))=>(match p17 with | Sum.inl q18=>some (Sum.inl ()) | Sum.inr r=>some r)) fun (p12:Unit⊕(Unit⊕(Int×Bool)))=>(match p12 with | Sum.inl q13=>Cb a0 a1 k7 (i64 (i_6+1)) | Sum.inr r=>some r) else some (Sum.inl ())
def BV(a0:Ay)(a1:Str):Option (Int×Bool) :=
 Option.bind (Cb a0 a1 (((a0.L.length:Int)-0).toNat+1) 0) fun (p1:Unit⊕(Int×Bool))=>(match p1 with | Sum.inl q2=>some (0,false) | Sum.inr r=>some r)
def CG(a0:Ax)(a1:Str):Option Bool :=
 (BV a0.R a1).bind fun r1=>some (r1.2&&decide (r1.1<2))
def Cn(a0:Ay):Nat→Int→Int→Option (Int)
 | 0,_,_=>none
 | k7+1,n_5,i_6=>if decide (i_6<(a0.L.length:Int)) then (gi a0.L i_6).bind fun x12=>Cn a0 k7 (i64 (n_5+(x12.length:Int))) (i64 (i_6+1)) else some n_5
def Di(a0:Ay):Option Int :=
 Option.bind (Cn a0 (((a0.L.length:Int)-0).toNat+1) 0 0) fun p1=>some p1
def Do(a0:Int)(a1:Int):Option Ay :=
 (mks 24 a0 ([]:List Str)).bind fun l2=>some (⟨l2,a1⟩:Ay)
def Co(a0:Ay)(a1:Str)(i_12:Int):Nat→(List Str)→Int→Option (List Str)
 | 0,_,_=>none
 | k37+1,l_34,k_35=>(gi a0.L i_12).bind fun x42=>if decide (k_35<(x42.length:Int)) then (gi x42 k_35).bind fun x47=>Option.bind (if (x47 != a1) then (apd 16 l_34 [x47]).bind fun l58=>some l58 else some l_34) fun p49=>Co a0 a1 i_12 k37 p49 (i64 (k_35+1)) else some l_34
def Cp(a0:Ay)(a1:Str):Nat→Int→(List (List Str))→Option (List (List Str))
 | 0,_,_=>none
 | k15+1,i_12,c_13=>if decide (i_12<(a0.L.length:Int)) then Option.bind (Option.bind (Co a0 a1 i_12 1100 [] 0) fun p26=>(gi c_13 i_12).bind fun y31=>some (ls c_13 i_12 p26)) fun p20=>Cp a0 a1 k15 (i64 (i_12+1)) p20 else some c_13
def BB(a0:Ay)(a1:Str):Option Ay :=
 (Do (a0.L.length:Int) a0.Places).bind fun r2=>Option.bind (Cp a0 a1 (((a0.L.length:Int)-0).toNat+1) 0 r2.L) fun p7=>some (⟨p7,r2.Places⟩:Ay)
def CI(a0:Ay)(a1:Int)(a2:Str):Option (Ay×Bool) :=
 (BV a0 a2).bind fun r2=>Option.bind (if ((decide (a1<0)||decide ((a0.L.length:Int)≤a1))||decide (64<(a2.length:Int))) then some true else Option.bind (if r2.2 then some false else (Di a0).bind fun r34=>some (decide (a0.Places≤r34))) fun p28=>some p28) fun p4=>if p4 then some (a0,false) else (BB a0 a2).bind fun r10=>(gi r10.L a1).bind fun y16=>(apd 16 [a2] y16).bind fun l20=>some ((⟨ls r10.L a1 l20,r10.Places⟩:Ay),true)
def AC(a0:Ax)(a1:Int)(a2:Str):Option Ax :=
 (CI a0.R a1 a2).bind fun r2=>some (⟨a0.Most,a0.Target,r2.1⟩:Ax)
def AQ(a0:Ax)(a1:Int):Option Int :=
 (gi a0.R.L a1).bind fun x1=>some (x1.length:Int)
def Br(a0:Ax):Option Int :=
 (AQ a0 0).bind fun r1=>(AQ a0 1).bind fun r3=>some (i64 (r1+r3))
def AX(a0:Ay)(a1:Int):Option (Str×Bool) :=
 Option.bind (if (decide (a1<0)||decide ((a0.L.length:Int)≤a1)) then some true else (gi a0.L a1).bind fun x14=>some ((x14.length:Int)==0)) fun p1=>if p1 then some ([],false) else (gi a0.L a1).bind fun x7=>(gi x7 (i64 ((x7.length:Int)-1))).bind fun x10=>some (x10,true)
def Bg(a0:Ax)(a1:Bool):Option (Ax×List Str) :=
 (AQ a0 0).bind fun r2=>Option.bind (if decide (0<r2) then Option.bind (if decide (a0.Target<r2) then some true else Option.bind (if a1 then Option.bind (if (r2==a0.Target) then some true else (AQ a0 1).bind fun r47=>some (r47==0)) fun p41=>some p41 else (AQ a0 1).bind fun r49=>some (r49==0)) fun p35=>some p35) fun p29=>some p29 else some false) fun p4=>Option.bind (if p4 then some 0 else some 1) fun p8=>(AX a0.R p8).bind fun r12=>if !r12.2 then some (a0,[]) else (AC a0 (i64 (p8+2)) r12.1).bind fun r16=>some (r16,[r12.1])
def BC(a0:Ax)(a1:Int):Option Ax :=
 (AX a0.R a1).bind fun r2=>if r2.2 then (BB a0.R r2.1).bind fun r6=>some (⟨a0.Most,a0.Target,r6⟩:Ax) else some a0
def CP(a0:Ax)(a1:Str):Option (Ax×List Str) :=
 if decide (64<(a1.length:Int)) then some (a0,[]) else (CG a0 a1).bind fun r4=>if r4 then (AC a0 1 a1).bind fun r8=>some (r8,[]) else (BV a0.R a1).bind fun r17=>if r17.2 then (AQ a0 2).bind fun r21=>(AQ a0 3).bind fun r23=>Option.bind (if (r17.1==2) then if r21≠0 then Option.bind (if decide ((i64 (r23.tdiv r21))<1) then some 1 else some (i64 (r23.tdiv r21))) fun p65=>Option.bind (if decide (a0.Most<(i64 (a0.Target+p65))) then some a0.Most else some (i64 (a0.Target+p65))) fun p69=>some p69 else none else if r23≠0 then Option.bind (if decide ((i64 (r21.tdiv r23))<1) then some 1 else some (i64 (r21.tdiv r23))) fun p79=>Option.bind (if decide ((i64 (a0.Target-p79))<0) then some 0 else some (i64 (a0.Target-p79))) fun p83=>some p83 else none) fun p25=>(Br (⟨a0.Most,p25,a0.R⟩:Ax)).bind fun r29=>Option.bind (if decide (a0.Most≤r29) then (Bg (⟨a0.Most,p25,a0.R⟩:Ax) (r17.1==3)).bind fun r52=>some (r52.2,r52.1) else some ([],(⟨a0.Most,p25,a0.R⟩:Ax))) fun p31=>(AC p31.2 1 a1).bind fun r42=>some (r42,p31.1) else (AQ a0 0).bind fun r91=>(AQ a0 2).bind fun r93=>(Br a0).bind fun r95=>(AQ a0 3).bind fun r97=>Option.bind (if decide (a0.Most≤(i64 (r91+r93))) then some (r91==a0.Most) else some false) fun p99=>if p99 then (AX a0.R 0).bind fun r105=>(BC a0 0).bind fun r108=>(AC r108 0 a1).bind fun r116=>some (r116,[r105.1]) else if decide (a0.Most≤(i64 (r91+r93))) then (BC a0 2).bind fun r126=>(Br r126).bind fun r134=>if decide (r126.Most≤r134) then (Bg r126 false).bind fun r138=>(AC r138.1 0 a1).bind fun r147=>some (r147,r138.2) else (AC r126 0 a1).bind fun r155=>some (r155,[]) else if decide (a0.Most≤(i64 ((i64 (r95+r93))+r97))) then Option.bind (if decide ((i64 (2*a0.Most))≤(i64 ((i64 (r95+r93))+r97))) then (BC a0 3).bind fun r206=>some r206 else some a0) fun p165=>(Br p165).bind fun r175=>if decide (p165.Most≤r175) then (Bg p165 false).bind fun r179=>(AC r179.1 0 a1).bind fun r188=>some (r188,r179.2) else (AC p165 0 a1).bind fun r196=>some (r196,[]) else (AC a0 0 a1).bind fun r214=>some (r214,[])
def Dy(a0:Ax):Option (Ax×Str×Bool) :=
 (Br a0).bind fun r2=>if (r2==0) then some (a0,[],false) else (Bg a0 false).bind fun r6=>if ((r6.2.length:Int)==0) then some (a0,[],false) else (gi r6.2 0).bind fun x18=>some (r6.1,x18,true)
def Dx(a0:Ax)(a1:Str):Option (Ax×Bool) :=
 (CG a0 a1).bind fun r2=>(BB a0.R a1).bind fun r4=>some ((⟨a0.Most,a0.Target,r4⟩:Ax),r2)
def Dz(a0:Ax)(a1:Str):Option (Ax×Bool) :=
 (CG a0 a1).bind fun r2=>if !r2 then some (a0,false) else (AC a0 1 a1).bind fun r6=>some (r6,true)
end Go.Proofs.YtpanhdnglicknaaGreat
