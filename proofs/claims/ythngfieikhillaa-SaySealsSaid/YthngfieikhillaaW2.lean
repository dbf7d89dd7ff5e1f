import Derived.Test.YthngfieikhillaaW1
import Derived.Test.YthngfieikhillaaFacts
import Derived.Test.YthngfieikhillaaHwU
set_option linter.unusedVariables false
set_option linter.unusedSectionVars false
set_option linter.unusedSimpArgs false
set_option maxRecDepth 100000
set_option maxHeartbeats 8000000
namespace Go.Proofs.Ythngfieikhillaa
open Go Go.Proofs.Ythngfieikhillaa.Hw
def say_take_l0  : Nat → Int → (List Str) → Str → Option ((List Str × Str) ⊕ ((api_Say × Str) ⊕ ((api_Say × Str) ⊕ ((api_Say × Str) ⊕ ((api_Say × Str) ⊕ ((api_Say × Str) ⊕ ((api_Say × Str) ⊕ ((api_Say × Str) ⊕ ((api_Say × Str) ⊕ ((api_Say × Str) ⊕ ((api_Say × Str) ⊕ ((api_Say × wire_Reader) ⊕ (Int × wire_Reader)))))))))))))
  | 0, _, _, _ => none
  | k247 + 1, s_243, c_244, c_245 => if decide (s_243 < 16) then (wire_Reader_Bytes (⟨c_245⟩ : wire_Reader) 32).bind fun r252 => sm r252 (fun (ra254 : Str × wire_Reader) => (apd 16 c_244 [ra254.1]).bind fun l260 => say_take_l0 k247 (i64 (s_243 + 1)) l260 ra254.2.s) fun ((rn255, ro256) : Int × wire_Reader) => some (Sum.inr (Sum.inr (Sum.inr (Sum.inr (Sum.inr (Sum.inr (Sum.inr (Sum.inr (Sum.inr (Sum.inr (Sum.inr (Sum.inr (rn255, ro256))))))))))))) else some (Sum.inl (c_244, c_245))
def say_take (a0 : wire_Reader) : Option ((api_Say × wire_Reader) ⊕ (Int × wire_Reader)) :=
  (wire_Reader_Num a0 15).bind fun r1 => sm r1 (fun (ra3 : UInt64 × wire_Reader) => lt (i64 (ra3.1.toNat : Int)) fun n7 => lt (wire_Reader_Must ra3.2 (decide (1 ≤ n7))) fun r10 => sm r10 (fun (ra12 : Unit) => Option.bind (if ((n7 != 1) && (n7 != 13)) then (cell_TakeView ra3.2).bind fun r322 => sm r322 (fun (ra324 : api_View × wire_Reader) => some (Sum.inl ((⟨n7, ra324.1, (⟨0, 0, 0, 0, 0, 0⟩ : api_View), 0, (⟨false, 0, 0, 0, (⟨0, 0, 0, 0, 0, 0⟩ : api_View), (⟨0, 0, 0, 0, 0, 0⟩ : api_View)⟩ : api_Promise), 0, 0, 0, [], (⟨0, 0, [], [], []⟩ : api_Piece), [], [], 0, 0, (⟨0, [], [], 0, 0⟩ : api_Op), (⟨0, [], 0⟩ : api_Reply)⟩ : api_Say), ra324.2.s))) fun ((rn325, ro326) : Int × wire_Reader) => some (Sum.inr (Sum.inr (rn325, ro326))) else some (Sum.inl ((⟨n7, (⟨0, 0, 0, 0, 0, 0⟩ : api_View), (⟨0, 0, 0, 0, 0, 0⟩ : api_View), 0, (⟨false, 0, 0, 0, (⟨0, 0, 0, 0, 0, 0⟩ : api_View), (⟨0, 0, 0, 0, 0, 0⟩ : api_View)⟩ : api_Promise), 0, 0, 0, [], (⟨0, 0, [], [], []⟩ : api_Piece), [], [], 0, 0, (⟨0, [], [], 0, 0⟩ : api_Op), (⟨0, [], 0⟩ : api_Reply)⟩ : api_Say), ra3.2.s))) fun (p16 : (api_Say × Str) ⊕ ((api_Say × wire_Reader) ⊕ (Int × wire_Reader))) => (match p16 with | Sum.inl q17 => Option.bind (Option.bind (if (q17.1.Kind == 3) then (wire_Reader_Num (⟨q17.2⟩ : wire_Reader) 18446744073709551615).bind fun r42 => sm r42 (fun (ra44 : UInt64 × wire_Reader) => some (Sum.inl ((⟨q17.1.Kind, q17.1.View, q17.1.Value, ra44.1, q17.1.Promise, q17.1.Seq, q17.1.Done, q17.1.Life, q17.1.Records, q17.1.Piece, q17.1.Digest, q17.1.Sums, q17.1.Session, q17.1.Num, q17.1.Op, q17.1.Reply⟩ : api_Say), ra44.2.s))) fun ((rn45, ro46) : Int × wire_Reader) => some (Sum.inr (Sum.inr (Sum.inr (rn45, ro46)))) else Option.bind (if (q17.1.Kind == 5) then (wire_Reader_Num (⟨q17.2⟩ : wire_Reader) 18446744073709551615).bind fun r58 => sm r58 (fun (ra60 : UInt64 × wire_Reader) => (cell_TakeView ra60.2).bind fun r64 => sm r64 (fun (ra66 : api_View × wire_Reader) => some (Sum.inl ((⟨q17.1.Kind, q17.1.View, ra66.1, ra60.1, q17.1.Promise, q17.1.Seq, q17.1.Done, q17.1.Life, q17.1.Records, q17.1.Piece, q17.1.Digest, q17.1.Sums, q17.1.Session, q17.1.Num, q17.1.Op, q17.1.Reply⟩ : api_Say), ra66.2.s))) fun ((rn67, ro68) : Int × wire_Reader) => some (Sum.inr (Sum.inr (Sum.inr (Sum.inr (rn67, ro68)))))) fun ((rn61, ro62) : Int × wire_Reader) => some (Sum.inr (Sum.inr (Sum.inr (Sum.inr (rn61, ro62))))) else Option.bind (if (q17.1.Kind == 4) then some (q17.1.Kind == 4) else some (q17.1.Kind == 6)) fun p70 => Option.bind (if p70 then (wire_Reader_Num (⟨q17.2⟩ : wire_Reader) 18446744073709551615).bind fun r84 => sm r84 (fun (ra86 : UInt64 × wire_Reader) => (say_takePromise ra86.2).bind fun r90 => sm r90 (fun (ra92 : api_Promise × wire_Reader) => some (Sum.inl ((⟨q17.1.Kind, q17.1.View, q17.1.Value, ra86.1, ra92.1, q17.1.Seq, q17.1.Done, q17.1.Life, q17.1.Records, q17.1.Piece, q17.1.Digest, q17.1.Sums, q17.1.Session, q17.1.Num, q17.1.Op, q17.1.Reply⟩ : api_Say), ra92.2.s))) fun ((rn93, ro94) : Int × wire_Reader) => some (Sum.inr (Sum.inr (Sum.inr (Sum.inr (Sum.inr (rn93, ro94))))))) fun ((rn87, ro88) : Int × wire_Reader) => some (Sum.inr (Sum.inr (Sum.inr (Sum.inr (Sum.inr (rn87, ro88)))))) else Option.bind (if (q17.1.Kind == 7) then (wire_Reader_Num (⟨q17.2⟩ : wire_Reader) 18446744073709551615).bind fun r106 => sm r106 (fun (ra108 : UInt64 × wire_Reader) => (say_takeRecords ra108.2).bind fun r112 => sm r112 (fun (ra114 : List api_Record × wire_Reader) => some (Sum.inl ((⟨q17.1.Kind, q17.1.View, q17.1.Value, q17.1.Ballot, q17.1.Promise, q17.1.Seq, ra108.1, q17.1.Life, ra114.1, q17.1.Piece, q17.1.Digest, q17.1.Sums, q17.1.Session, q17.1.Num, q17.1.Op, q17.1.Reply⟩ : api_Say), ra114.2.s))) fun ((rn115, ro116) : Int × wire_Reader) => some (Sum.inr (Sum.inr (Sum.inr (Sum.inr (Sum.inr (Sum.inr (rn115, ro116)))))))) fun ((rn109, ro110) : Int × wire_Reader) => some (Sum.inr (Sum.inr (Sum.inr (Sum.inr (Sum.inr (Sum.inr (rn109, ro110))))))) else Option.bind (if (q17.1.Kind == 8) then (wire_Reader_Num (⟨q17.2⟩ : wire_Reader) 18446744073709551615).bind fun r129 => sm r129 (fun (ra131 : UInt64 × wire_Reader) => some (Sum.inl ((⟨q17.1.Kind, q17.1.View, q17.1.Value, q17.1.Ballot, q17.1.Promise, ra131.1, q17.1.Done, q17.1.Life, q17.1.Records, q17.1.Piece, q17.1.Digest, q17.1.Sums, q17.1.Session, q17.1.Num, q17.1.Op, q17.1.Reply⟩ : api_Say), ra131.2.s))) fun ((rn132, ro133) : Int × wire_Reader) => some (Sum.inr (Sum.inr (Sum.inr (Sum.inr (Sum.inr (Sum.inr (Sum.inr (rn132, ro133)))))))) else Option.bind (if (q17.1.Kind == 9) then (wire_Reader_Num (⟨q17.2⟩ : wire_Reader) 18446744073709551615).bind fun r145 => sm r145 (fun (ra147 : UInt64 × wire_Reader) => some (Sum.inl ((⟨q17.1.Kind, q17.1.View, q17.1.Value, q17.1.Ballot, q17.1.Promise, q17.1.Seq, q17.1.Done, ra147.1, q17.1.Records, q17.1.Piece, q17.1.Digest, q17.1.Sums, q17.1.Session, q17.1.Num, q17.1.Op, q17.1.Reply⟩ : api_Say), ra147.2.s))) fun ((rn148, ro149) : Int × wire_Reader) => some (Sum.inr (Sum.inr (Sum.inr (Sum.inr (Sum.inr (Sum.inr (Sum.inr (Sum.inr (rn148, ro149))))))))) else Option.bind (if (q17.1.Kind == 10) then (wire_Reader_Num (⟨q17.2⟩ : wire_Reader) 18446744073709551615).bind fun r161 => sm r161 (fun (ra163 : UInt64 × wire_Reader) => (wire_Reader_Num ra163.2 18446744073709551615).bind fun r167 => sm r167 (fun (ra169 : UInt64 × wire_Reader) => (say_takePiece ra169.2).bind fun r173 => sm r173 (fun (ra175 : api_Piece × wire_Reader) => some (Sum.inl ((⟨q17.1.Kind, q17.1.View, q17.1.Value, q17.1.Ballot, q17.1.Promise, ra169.1, q17.1.Done, ra163.1, q17.1.Records, ra175.1, q17.1.Digest, q17.1.Sums, q17.1.Session, q17.1.Num, q17.1.Op, q17.1.Reply⟩ : api_Say), ra175.2.s))) fun ((rn176, ro177) : Int × wire_Reader) => some (Sum.inr (Sum.inr (Sum.inr (Sum.inr (Sum.inr (Sum.inr (Sum.inr (Sum.inr (Sum.inr (rn176, ro177))))))))))) fun ((rn170, ro171) : Int × wire_Reader) => some (Sum.inr (Sum.inr (Sum.inr (Sum.inr (Sum.inr (Sum.inr (Sum.inr (Sum.inr (Sum.inr (rn170, ro171))))))))))) fun ((rn164, ro165) : Int × wire_Reader) => some (Sum.inr (Sum.inr (Sum.inr (Sum.inr (Sum.inr (Sum.inr (Sum.inr (Sum.inr (Sum.inr (rn164, ro165)))))))))) else Option.bind (if (q17.1.Kind == 11) then (wire_Reader_Num (⟨q17.2⟩ : wire_Reader) 18446744073709551615).bind fun r189 => sm r189 (fun (ra191 : UInt64 × wire_Reader) => (wire_Reader_Num ra191.2 18446744073709551615).bind fun r195 => sm r195 (fun (ra197 : UInt64 × wire_Reader) => (wire_Reader_Num ra197.2 8192).bind fun r201 => sm r201 (fun (ra203 : UInt64 × wire_Reader) => lt (i64 (ra203.1.toNat : Int)) fun n207 => some (Sum.inl ((⟨q17.1.Kind, q17.1.View, q17.1.Value, q17.1.Ballot, q17.1.Promise, ra197.1, q17.1.Done, ra191.1, q17.1.Records, (⟨n207, q17.1.Piece.Of, q17.1.Piece.Data, q17.1.Piece.Sum, q17.1.Piece.Whole⟩ : api_Piece), q17.1.Digest, q17.1.Sums, q17.1.Session, q17.1.Num, q17.1.Op, q17.1.Reply⟩ : api_Say), ra203.2.s))) fun ((rn204, ro205) : Int × wire_Reader) => some (Sum.inr (Sum.inr (Sum.inr (Sum.inr (Sum.inr (Sum.inr (Sum.inr (Sum.inr (Sum.inr (Sum.inr (rn204, ro205)))))))))))) fun ((rn198, ro199) : Int × wire_Reader) => some (Sum.inr (Sum.inr (Sum.inr (Sum.inr (Sum.inr (Sum.inr (Sum.inr (Sum.inr (Sum.inr (Sum.inr (rn198, ro199)))))))))))) fun ((rn192, ro193) : Int × wire_Reader) => some (Sum.inr (Sum.inr (Sum.inr (Sum.inr (Sum.inr (Sum.inr (Sum.inr (Sum.inr (Sum.inr (Sum.inr (rn192, ro193))))))))))) else Option.bind (if (q17.1.Kind == 12) then (wire_Reader_Num (⟨q17.2⟩ : wire_Reader) 18446744073709551615).bind fun r219 => sm r219 (fun (ra221 : UInt64 × wire_Reader) => (wire_Reader_Num ra221.2 18446744073709551615).bind fun r225 => sm r225 (fun (ra227 : UInt64 × wire_Reader) => (wire_Reader_Bytes ra227.2 32).bind fun r231 => sm r231 (fun (ra233 : Str × wire_Reader) => Option.bind (say_take_l0 17 0 q17.1.Sums ra233.2.s) fun (p237 : (List Str × Str) ⊕ ((api_Say × Str) ⊕ ((api_Say × Str) ⊕ ((api_Say × Str) ⊕ ((api_Say × Str) ⊕ ((api_Say × Str) ⊕ ((api_Say × Str) ⊕ ((api_Say × Str) ⊕ ((api_Say × Str) ⊕ ((api_Say × Str) ⊕ ((api_Say × Str) ⊕ ((api_Say × wire_Reader) ⊕ (Int × wire_Reader))))))))))))) => (match p237 with | Sum.inl q238 => some (Sum.inl ((⟨q17.1.Kind, q17.1.View, q17.1.Value, q17.1.Ballot, q17.1.Promise, ra227.1, q17.1.Done, ra221.1, q17.1.Records, q17.1.Piece, ra233.1, q238.1, q17.1.Session, q17.1.Num, q17.1.Op, q17.1.Reply⟩ : api_Say), q238.2)) | Sum.inr r => some r)) fun ((rn234, ro235) : Int × wire_Reader) => some (Sum.inr (Sum.inr (Sum.inr (Sum.inr (Sum.inr (Sum.inr (Sum.inr (Sum.inr (Sum.inr (Sum.inr (Sum.inr (rn234, ro235))))))))))))) fun ((rn228, ro229) : Int × wire_Reader) => some (Sum.inr (Sum.inr (Sum.inr (Sum.inr (Sum.inr (Sum.inr (Sum.inr (Sum.inr (Sum.inr (Sum.inr (Sum.inr (rn228, ro229))))))))))))) fun ((rn222, ro223) : Int × wire_Reader) => some (Sum.inr (Sum.inr (Sum.inr (Sum.inr (Sum.inr (Sum.inr (Sum.inr (Sum.inr (Sum.inr (Sum.inr (Sum.inr (rn222, ro223)))))))))))) else Option.bind (if (q17.1.Kind == 13) then (wire_Reader_Num (⟨q17.2⟩ : wire_Reader) 18446744073709551615).bind fun r269 => sm r269 (fun (ra271 : UInt64 × wire_Reader) => (wire_Reader_Num ra271.2 18446744073709551615).bind fun r275 => sm r275 (fun (ra277 : UInt64 × wire_Reader) => (op_Take ra277.2).bind fun r281 => sm r281 (fun (ra283 : api_Op × wire_Reader) => some (Sum.inl ((⟨q17.1.Kind, q17.1.View, q17.1.Value, q17.1.Ballot, q17.1.Promise, q17.1.Seq, q17.1.Done, q17.1.Life, q17.1.Records, q17.1.Piece, q17.1.Digest, q17.1.Sums, ra271.1, ra277.1, ra283.1, q17.1.Reply⟩ : api_Say), ra283.2.s))) fun ((rn284, ro285) : Int × wire_Reader) => some (Sum.inr (Sum.inr (Sum.inr (Sum.inr (Sum.inr (Sum.inr (Sum.inr (Sum.inr (Sum.inr (Sum.inr (Sum.inr (Sum.inr (rn284, ro285)))))))))))))) fun ((rn278, ro279) : Int × wire_Reader) => some (Sum.inr (Sum.inr (Sum.inr (Sum.inr (Sum.inr (Sum.inr (Sum.inr (Sum.inr (Sum.inr (Sum.inr (Sum.inr (Sum.inr (rn278, ro279)))))))))))))) fun ((rn272, ro273) : Int × wire_Reader) => some (Sum.inr (Sum.inr (Sum.inr (Sum.inr (Sum.inr (Sum.inr (Sum.inr (Sum.inr (Sum.inr (Sum.inr (Sum.inr (Sum.inr (rn272, ro273))))))))))))) else Option.bind (if (q17.1.Kind == 14) then (wire_Reader_Num (⟨q17.2⟩ : wire_Reader) 18446744073709551615).bind fun r294 => sm r294 (fun (ra296 : UInt64 × wire_Reader) => (wire_Reader_Num ra296.2 18446744073709551615).bind fun r300 => sm r300 (fun (ra302 : UInt64 × wire_Reader) => (wire_Reader_Num ra302.2 18446744073709551615).bind fun r306 => sm r306 (fun (ra308 : UInt64 × wire_Reader) => (op_TakeReply ra308.2).bind fun r312 => sm r312 (fun (ra314 : api_Reply × wire_Reader) => some (Sum.inl ((⟨q17.1.Kind, q17.1.View, q17.1.Value, q17.1.Ballot, q17.1.Promise, ra308.1, q17.1.Done, q17.1.Life, q17.1.Records, q17.1.Piece, q17.1.Digest, q17.1.Sums, ra296.1, ra302.1, q17.1.Op, ra314.1⟩ : api_Say), ra314.2.s))) fun ((rn315, ro316) : Int × wire_Reader) => some (Sum.inr (Sum.inr (Sum.inr (Sum.inr (Sum.inr (Sum.inr (Sum.inr (Sum.inr (Sum.inr (Sum.inr (Sum.inr (Sum.inr (Sum.inr (rn315, ro316))))))))))))))) fun ((rn309, ro310) : Int × wire_Reader) => some (Sum.inr (Sum.inr (Sum.inr (Sum.inr (Sum.inr (Sum.inr (Sum.inr (Sum.inr (Sum.inr (Sum.inr (Sum.inr (Sum.inr (Sum.inr (rn309, ro310))))))))))))))) fun ((rn303, ro304) : Int × wire_Reader) => some (Sum.inr (Sum.inr (Sum.inr (Sum.inr (Sum.inr (Sum.inr (Sum.inr (Sum.inr (Sum.inr (Sum.inr (Sum.inr (Sum.inr (Sum.inr (rn303, ro304))))))))))))))) fun ((rn297, ro298) : Int × wire_Reader) => some (Sum.inr (Sum.inr (Sum.inr (Sum.inr (Sum.inr (Sum.inr (Sum.inr (Sum.inr (Sum.inr (Sum.inr (Sum.inr (Sum.inr (Sum.inr (rn297, ro298)))))))))))))) else some (Sum.inl (q17.1, q17.2))) fun (p287 : (api_Say × Str) ⊕ ((api_Say × Str) ⊕ ((api_Say × Str) ⊕ ((api_Say × Str) ⊕ ((api_Say × Str) ⊕ ((api_Say × Str) ⊕ ((api_Say × Str) ⊕ ((api_Say × Str) ⊕ ((api_Say × Str) ⊕ ((api_Say × Str) ⊕ ((api_Say × Str) ⊕ ((api_Say × Str) ⊕ ((api_Say × wire_Reader) ⊕ (Int × wire_Reader)))))))))))))) => (match p287 with | Sum.inl q288 => some (Sum.inl (q288.1, q288.2)) | Sum.inr r => some r)) fun (p262 : (api_Say × Str) ⊕ ((api_Say × Str) ⊕ ((api_Say × Str) ⊕ ((api_Say × Str) ⊕ ((api_Say × Str) ⊕ ((api_Say × Str) ⊕ ((api_Say × Str) ⊕ ((api_Say × Str) ⊕ ((api_Say × Str) ⊕ ((api_Say × Str) ⊕ ((api_Say × Str) ⊕ ((api_Say × wire_Reader) ⊕ (Int × wire_Reader))))))))))))) => (match p262 with | Sum.inl q263 => some (Sum.inl (q263.1, q263.2)) | Sum.inr r => some r)) fun (p209 : (api_Say × Str) ⊕ ((api_Say × Str) ⊕ ((api_Say × Str) ⊕ ((api_Say × Str) ⊕ ((api_Say × Str) ⊕ ((api_Say × Str) ⊕ ((api_Say × Str) ⊕ ((api_Say × Str) ⊕ ((api_Say × Str) ⊕ ((api_Say × Str) ⊕ ((api_Say × wire_Reader) ⊕ (Int × wire_Reader)))))))))))) => (match p209 with | Sum.inl q210 => some (Sum.inl (q210.1, q210.2)) | Sum.inr r => some r)) fun (p179 : (api_Say × Str) ⊕ ((api_Say × Str) ⊕ ((api_Say × Str) ⊕ ((api_Say × Str) ⊕ ((api_Say × Str) ⊕ ((api_Say × Str) ⊕ ((api_Say × Str) ⊕ ((api_Say × Str) ⊕ ((api_Say × Str) ⊕ ((api_Say × wire_Reader) ⊕ (Int × wire_Reader))))))))))) => (match p179 with | Sum.inl q180 => some (Sum.inl (q180.1, q180.2)) | Sum.inr r => some r)) fun (p151 : (api_Say × Str) ⊕ ((api_Say × Str) ⊕ ((api_Say × Str) ⊕ ((api_Say × Str) ⊕ ((api_Say × Str) ⊕ ((api_Say × Str) ⊕ ((api_Say × Str) ⊕ ((api_Say × Str) ⊕ ((api_Say × wire_Reader) ⊕ (Int × wire_Reader)))))))))) => (match p151 with | Sum.inl q152 => some (Sum.inl (q152.1, q152.2)) | Sum.inr r => some r)) fun (p135 : (api_Say × Str) ⊕ ((api_Say × Str) ⊕ ((api_Say × Str) ⊕ ((api_Say × Str) ⊕ ((api_Say × Str) ⊕ ((api_Say × Str) ⊕ ((api_Say × Str) ⊕ ((api_Say × wire_Reader) ⊕ (Int × wire_Reader))))))))) => (match p135 with | Sum.inl q136 => some (Sum.inl (q136.1, q136.2)) | Sum.inr r => some r)) fun (p119 : (api_Say × Str) ⊕ ((api_Say × Str) ⊕ ((api_Say × Str) ⊕ ((api_Say × Str) ⊕ ((api_Say × Str) ⊕ ((api_Say × Str) ⊕ ((api_Say × wire_Reader) ⊕ (Int × wire_Reader)))))))) => (match p119 with | Sum.inl q120 => some (Sum.inl (q120.1, q120.2)) | Sum.inr r => some r)) fun (p96 : (api_Say × Str) ⊕ ((api_Say × Str) ⊕ ((api_Say × Str) ⊕ ((api_Say × Str) ⊕ ((api_Say × Str) ⊕ ((api_Say × wire_Reader) ⊕ (Int × wire_Reader))))))) => (match p96 with | Sum.inl q97 => some (Sum.inl (q97.1, q97.2)) | Sum.inr r => some r)) fun (p74 : (api_Say × Str) ⊕ ((api_Say × Str) ⊕ ((api_Say × Str) ⊕ ((api_Say × Str) ⊕ ((api_Say × wire_Reader) ⊕ (Int × wire_Reader)))))) => (match p74 with | Sum.inl q75 => some (Sum.inl (q75.1, q75.2)) | Sum.inr r => some r)) fun (p48 : (api_Say × Str) ⊕ ((api_Say × Str) ⊕ ((api_Say × Str) ⊕ ((api_Say × wire_Reader) ⊕ (Int × wire_Reader))))) => (match p48 with | Sum.inl q49 => some (Sum.inl (q49.1, q49.2)) | Sum.inr r => some r)) fun (p32 : (api_Say × Str) ⊕ ((api_Say × Str) ⊕ ((api_Say × wire_Reader) ⊕ (Int × wire_Reader)))) => (match p32 with | Sum.inl q33 => some (Sum.inl (q33.1, q33.2)) | Sum.inr r => some r)) fun (p24 : (api_Say × Str) ⊕ ((api_Say × wire_Reader) ⊕ (Int × wire_Reader))) => (match p24 with | Sum.inl q25 => some (Sum.inl (q25.1, (⟨q25.2⟩ : wire_Reader))) | Sum.inr r => some r) | Sum.inr r => some r)) fun ((rn13, ro14) : Int × Unit) => some (Sum.inr (rn13, ra3.2))) fun ((rn4, ro5) : Int × wire_Reader) => some (Sum.inr (rn4, ro5))
theorem say_take.ok {G R F} (b0_ : Nat) (a0 : wire_Reader) (r : (api_Say × wire_Reader) ⊕ (Int × wire_Reader)) (hm : say_take a0 = some r) : CO Try.prog 38 [pt b0_ 0] G R (Bk b0_ 114 (wire_Reader.c a0) :: F)
    (PK 112 r (fun (a : api_Say × wire_Reader) u R' L' => ∃ (p0 : api_Say.G), u = .agg [vI a.1.Kind, vW a.1.View.V, vI a.1.View.Primary, vW a.1.View.PLife, vI a.1.View.Backup, vW a.1.View.BLife, vW a.1.View.Epoch, vW a.1.Value.V, vI a.1.Value.Primary, vW a.1.Value.PLife, vI a.1.Value.Backup, vW a.1.Value.BLife, vW a.1.Value.Epoch, vW a.1.Ballot, vB a.1.Promise.OK, vW a.1.Promise.V, vW a.1.Promise.Most, vW a.1.Promise.Ballot, vW a.1.Promise.Value.V, vI a.1.Promise.Value.Primary, vW a.1.Promise.Value.PLife, vI a.1.Promise.Value.Backup, vW a.1.Promise.Value.BLife, vW a.1.Promise.Value.Epoch, vW a.1.Promise.Chosen.V, vI a.1.Promise.Chosen.Primary, vW a.1.Promise.Chosen.PLife, vI a.1.Promise.Chosen.Backup, vW a.1.Promise.Chosen.BLife, vW a.1.Promise.Chosen.Epoch, vW a.1.Seq, vW a.1.Done, vW a.1.Life, p0.Records, vI a.1.Piece.N, vI a.1.Piece.Of, vS a.1.Piece.Data, vS a.1.Piece.Sum, vS a.1.Piece.Whole, vS a.1.Digest, p0.Sums, vW a.1.Session, vW a.1.Num, vI a.1.Op.Kind, vS a.1.Op.Key, vS a.1.Op.Value, vW a.1.Op.TTL, vW a.1.Op.Version, vI a.1.Reply.E, vS a.1.Reply.Value, vW a.1.Reply.Version].toArray ∧ R' = R ∧ L' = OwS true 89 9 api_Record.c p0.Records a.1.Records :: OwS true 9 1 eS p0.Sums a.1.Sums :: Bk b0_ 114 (wire_Reader.c a.2) :: F) (fun n (o : wire_Reader) R' L' => R' = R ∧ L' = Bk b0_ 114 (wire_Reader.c o) :: F)) := by
  unfold say_take at hm
  refine co_ofN (N := 137) Try.func38 rfl rfl ?_
  refine c_seq ?_
  refine c_reg ?_
  refine r_new (o_al ze37) fun b0 => ?_
  refine r_nil ?_
  refine x_seq ?_
  refine c_seq ?_
  obtain ⟨r1, hr1, hm2⟩ := bs hm
  clear hm
  rcases r1 with ra3 | ⟨rn4, ro5⟩
  · have hm6 := sm_l hm2
    clear hm2
    refine c_reg ?_
    refine r_u (o_mv rfl) ?_
    refine rl_st (fun _ h => st_pk 2 [1, 0] (by decide) h) ?_
    refine r_c (s_w (o_callL ca72 rfl (wire_Reader_Num.ok b0_ a0 15 (Sum.inl ra3) hr1) (fun _ _ _ h => h))) ?_
    obtain ⟨n7, hn7, hm8⟩ := ltx hm6
    clear hm6
    refine r_u (o_cv rfl (cvI (cWI Try.underlying22 Try.underlying3 ra3.1) hn7)) ?_
    refine r_u (o_bld [vI n7, vW 0, vI 0, vW 0, vI 0, vW 0, vW 0, vW 0, vI 0, vW 0, vI 0, vW 0, vW 0, vW 0, vB false, vW 0, vW 0, vW 0, vW 0, vI 0, vW 0, vI 0, vW 0, vW 0, vW 0, vI 0, vW 0, vI 0, vW 0, vW 0, vW 0, vW 0, vW 0, .slice none 0 0, vI 0, vI 0, vS [], vS [], vS [], vS [], .slice none 0 0, vW 0, vW 0, vI 0, vS [], vS [], vW 0, vW 0, vI 0, vS [], vW 0] rfl (fun _ => by kernel_rfl)) ?_
    refine r_new (o_al ze37) fun b9 => ?_
    refine r_u0 (o_stn ag37 rfl rfl rfl (al_c rfl (al_c rfl (al_c rfl (al_c rfl (al_c rfl (al_c rfl (al_c rfl (al_c rfl (al_c rfl (al_c rfl (al_c rfl (al_c rfl (al_c rfl (al_c rfl (al_c rfl (al_c rfl (al_c rfl (al_c rfl (al_c rfl (al_c rfl (al_c rfl (al_c rfl (al_c rfl (al_c rfl (al_c rfl (al_c rfl (al_c rfl (al_c rfl (al_c rfl (al_c rfl (al_c rfl (al_c rfl (al_c rfl (al_c rfl (al_c rfl (al_c rfl (al_c rfl (al_c rfl (al_c rfl (al_c rfl (al_c rfl (al_c rfl (al_c rfl (al_c rfl (al_c rfl (al_c rfl (al_c rfl (al_c rfl (al_c rfl (al_c rfl (al_c rfl al_n))))))))))))))))))))))))))))))))))))))))))))))))))) rfl rfl rfl) ?_
    refine r_nil ?_
    refine x_seq ?_
    refine c_seq ?_
    obtain ⟨r10, hr10, hm11⟩ := ltx hm8
    clear hm8
    rcases r10 with ra12 | ⟨rn13, ro14⟩
    · have hm15 := sm_l hm11
      clear hm11
      refine c_reg ?_
      refine r_u (o_mv rfl) ?_
      refine r_u (o_fa fa37_0 rfl) ?_
      refine r_u (o_ld 0 sc3 rfl rfl rfl) ?_
      refine r_u (o_bin rfl rfl (bI_ge n7 1)) ?_
      refine rl_st (fun _ h => st_pk 3 [1, 0, 2] (by decide) h) ?_
      refine r_c (s_w (o_callL ca73 rfl (wire_Reader_Must.ok b0_ ra3.2 (decide (1 ≤ n7)) (Sum.inl ra12) hr10) (fun _ _ _ h => h))) ?_
      refine r_nil ?_
      refine x_seq ?_
      refine c_seq ?_
      refine c_seq ?_
      refine c_reg ?_
      refine r_u (o_fa fa37_0 rfl) ?_
      refine r_u (o_ld 1 sc3 rfl rfl rfl) ?_
      refine r_u (o_bin rfl rfl (bI_ne n7 1)) ?_
      refine r_u (o_mv rfl) ?_
      refine r_s (s_gt rfl rfl fun g => o_fa fa37_0 rfl) ?_
      refine r_s (s_gt rfl rfl fun g => o_ld 1 sc3 (evg rfl g) rfl rfl) ?_
      refine r_s (s_gt rfl rfl fun g => o_bin (evg rfl g) rfl (bI_ne n7 13)) ?_
      refine r_u (o_and rfl rfl) ?_
      refine r_nil ?_
      refine x_seq ?_
      obtain ⟨p16, hp21, hm22⟩ := bs hm15
      refine cd_cut (fun x ks => ∀ (q17 : api_Say × Str), ∀ (_ : p16 = Sum.inl q17), ∀ (g18 : api_Say.G), EX x .normal ks [(0, pt b0_ 0), (2, pt b0 0), (3, pt b9 0)] R (Bk b9 37 [vI q17.1.Kind, vW q17.1.View.V, vI q17.1.View.Primary, vW q17.1.View.PLife, vI q17.1.View.Backup, vW q17.1.View.BLife, vW q17.1.View.Epoch, vW q17.1.Value.V, vI q17.1.Value.Primary, vW q17.1.Value.PLife, vI q17.1.Value.Backup, vW q17.1.Value.BLife, vW q17.1.Value.Epoch, vW q17.1.Ballot, vB q17.1.Promise.OK, vW q17.1.Promise.V, vW q17.1.Promise.Most, vW q17.1.Promise.Ballot, vW q17.1.Promise.Value.V, vI q17.1.Promise.Value.Primary, vW q17.1.Promise.Value.PLife, vI q17.1.Promise.Value.Backup, vW q17.1.Promise.Value.BLife, vW q17.1.Promise.Value.Epoch, vW q17.1.Promise.Chosen.V, vI q17.1.Promise.Chosen.Primary, vW q17.1.Promise.Chosen.PLife, vI q17.1.Promise.Chosen.Backup, vW q17.1.Promise.Chosen.BLife, vW q17.1.Promise.Chosen.Epoch, vW q17.1.Seq, vW q17.1.Done, vW q17.1.Life, g18.Records, vI q17.1.Piece.N, vI q17.1.Piece.Of, vS q17.1.Piece.Data, vS q17.1.Piece.Sum, vS q17.1.Piece.Whole, vS q17.1.Digest, g18.Sums, vW q17.1.Session, vW q17.1.Num, vI q17.1.Op.Kind, vS q17.1.Op.Key, vS q17.1.Op.Value, vW q17.1.Op.TTL, vW q17.1.Op.Version, vI q17.1.Reply.E, vS q17.1.Reply.Value, vW q17.1.Reply.Version] :: Bk b0_ 114 [vS q17.2] :: Bk b0 37 [vI 0, vW 0, vI 0, vW 0, vI 0, vW 0, vW 0, vW 0, vI 0, vW 0, vI 0, vW 0, vW 0, vW 0, vB false, vW 0, vW 0, vW 0, vW 0, vI 0, vW 0, vI 0, vW 0, vW 0, vW 0, vI 0, vW 0, vI 0, vW 0, vW 0, vW 0, vW 0, vW 0, .slice none 0 0, vI 0, vI 0, vS [], vS [], vS [], vS [], .slice none 0 0, vW 0, vW 0, vI 0, vS [], vS [], vW 0, vW 0, vI 0, vS [], vW 0] :: OwS true 89 9 api_Record.c g18.Records q17.1.Records :: OwS true 9 1 eS g18.Sums q17.1.Sums :: F)) ?_ fun K23 => ?_
      · intro q17 hq g18
        subst hq
        try dsimp only at hm22
        refine x_seq ?_
        refine c_seq ?_
        refine c_seq ?_
        refine c_reg ?_
        refine r_u (o_fa fa37_0 rfl) ?_
        refine r_u (o_ld 0 sc3 rfl rfl rfl) ?_
        refine r_nil ?_
        refine x_seq ?_
        obtain ⟨p24, hp29, hm30⟩ := bs hm22
        refine cd_cut (fun x ks => ∀ (q25 : api_Say × Str), ∀ (_ : p24 = Sum.inl q25), ∀ (g26 : api_Say.G), EX x .normal ks [(2, pt b0 0), (3, pt b9 0)] R (Bk b9 37 [vI q25.1.Kind, vW q25.1.View.V, vI q25.1.View.Primary, vW q25.1.View.PLife, vI q25.1.View.Backup, vW q25.1.View.BLife, vW q25.1.View.Epoch, vW q25.1.Value.V, vI q25.1.Value.Primary, vW q25.1.Value.PLife, vI q25.1.Value.Backup, vW q25.1.Value.BLife, vW q25.1.Value.Epoch, vW q25.1.Ballot, vB q25.1.Promise.OK, vW q25.1.Promise.V, vW q25.1.Promise.Most, vW q25.1.Promise.Ballot, vW q25.1.Promise.Value.V, vI q25.1.Promise.Value.Primary, vW q25.1.Promise.Value.PLife, vI q25.1.Promise.Value.Backup, vW q25.1.Promise.Value.BLife, vW q25.1.Promise.Value.Epoch, vW q25.1.Promise.Chosen.V, vI q25.1.Promise.Chosen.Primary, vW q25.1.Promise.Chosen.PLife, vI q25.1.Promise.Chosen.Backup, vW q25.1.Promise.Chosen.BLife, vW q25.1.Promise.Chosen.Epoch, vW q25.1.Seq, vW q25.1.Done, vW q25.1.Life, g26.Records, vI q25.1.Piece.N, vI q25.1.Piece.Of, vS q25.1.Piece.Data, vS q25.1.Piece.Sum, vS q25.1.Piece.Whole, vS q25.1.Digest, g26.Sums, vW q25.1.Session, vW q25.1.Num, vI q25.1.Op.Kind, vS q25.1.Op.Key, vS q25.1.Op.Value, vW q25.1.Op.TTL, vW q25.1.Op.Version, vI q25.1.Reply.E, vS q25.1.Reply.Value, vW q25.1.Reply.Version] :: Bk b0_ 114 [vS q25.2] :: Bk b0 37 [vI 0, vW 0, vI 0, vW 0, vI 0, vW 0, vW 0, vW 0, vI 0, vW 0, vI 0, vW 0, vW 0, vW 0, vB false, vW 0, vW 0, vW 0, vW 0, vI 0, vW 0, vI 0, vW 0, vW 0, vW 0, vI 0, vW 0, vI 0, vW 0, vW 0, vW 0, vW 0, vW 0, .slice none 0 0, vI 0, vI 0, vS [], vS [], vS [], vS [], .slice none 0 0, vW 0, vW 0, vI 0, vS [], vS [], vW 0, vW 0, vI 0, vS [], vW 0] :: OwS true 89 9 api_Record.c g26.Records q25.1.Records :: OwS true 9 1 eS g26.Sums q25.1.Sums :: F)) ?_ fun K31 => ?_
        · intro q25 hq g26
          subst hq
          try dsimp only at hm30
          refine x_seq ?_
          refine c_seq ?_
          refine c_reg ?_
          refine r_u (o_ldn 0 [vI q25.1.Kind, vW q25.1.View.V, vI q25.1.View.Primary, vW q25.1.View.PLife, vI q25.1.View.Backup, vW q25.1.View.BLife, vW q25.1.View.Epoch, vW q25.1.Value.V, vI q25.1.Value.Primary, vW q25.1.Value.PLife, vI q25.1.Value.Backup, vW q25.1.Value.BLife, vW q25.1.Value.Epoch, vW q25.1.Ballot, vB q25.1.Promise.OK, vW q25.1.Promise.V, vW q25.1.Promise.Most, vW q25.1.Promise.Ballot, vW q25.1.Promise.Value.V, vI q25.1.Promise.Value.Primary, vW q25.1.Promise.Value.PLife, vI q25.1.Promise.Value.Backup, vW q25.1.Promise.Value.BLife, vW q25.1.Promise.Value.Epoch, vW q25.1.Promise.Chosen.V, vI q25.1.Promise.Chosen.Primary, vW q25.1.Promise.Chosen.PLife, vI q25.1.Promise.Chosen.Backup, vW q25.1.Promise.Chosen.BLife, vW q25.1.Promise.Chosen.Epoch, vW q25.1.Seq, vW q25.1.Done, vW q25.1.Life, g26.Records, vI q25.1.Piece.N, vI q25.1.Piece.Of, vS q25.1.Piece.Data, vS q25.1.Piece.Sum, vS q25.1.Piece.Whole, vS q25.1.Digest, g26.Sums, vW q25.1.Session, vW q25.1.Num, vI q25.1.Op.Kind, vS q25.1.Op.Key, vS q25.1.Op.Value, vW q25.1.Op.TTL, vW q25.1.Op.Version, vI q25.1.Reply.E, vS q25.1.Reply.Value, vW q25.1.Reply.Version] ag37 rfl rfl rfl rfl) ?_
          refine rl_st (fun _ h => st_pk 5 [2, 3, 4, 0, 1] (by decide) h) ?_
          refine r_u0 (ou_if (one_o 1 rfl) fun ho0 => ou_if (one_o 2 rfl) fun ho1 => o_stn ag37 rfl rfl rfl (al_c rfl (al_c rfl (al_c rfl (al_c rfl (al_c rfl (al_c rfl (al_c rfl (al_c rfl (al_c rfl (al_c rfl (al_c rfl (al_c rfl (al_c rfl (al_c rfl (al_c rfl (al_c rfl (al_c rfl (al_c rfl (al_c rfl (al_c rfl (al_c rfl (al_c rfl (al_c rfl (al_c rfl (al_c rfl (al_c rfl (al_c rfl (al_c rfl (al_c rfl (al_c rfl (al_c rfl (al_c rfl (al_c rfl (al_c ho0 (al_c rfl (al_c rfl (al_c rfl (al_c rfl (al_c rfl (al_c rfl (al_c ho1 (al_c rfl (al_c rfl (al_c rfl (al_c rfl (al_c rfl (al_c rfl (al_c rfl (al_c rfl (al_c rfl (al_c rfl al_n))))))))))))))))))))))))))))))))))))))))))))))))))) rfl rfl rfl) ?_
          refine r_nil ?_
          refine x_seq ?_
          refine c_ret ?_
          obtain rfl := Option.some.inj hm30
          exact x_d1 rfl (rv_n 0 [vI q25.1.Kind, vW q25.1.View.V, vI q25.1.View.Primary, vW q25.1.View.PLife, vI q25.1.View.Backup, vW q25.1.View.BLife, vW q25.1.View.Epoch, vW q25.1.Value.V, vI q25.1.Value.Primary, vW q25.1.Value.PLife, vI q25.1.Value.Backup, vW q25.1.Value.BLife, vW q25.1.Value.Epoch, vW q25.1.Ballot, vB q25.1.Promise.OK, vW q25.1.Promise.V, vW q25.1.Promise.Most, vW q25.1.Promise.Ballot, vW q25.1.Promise.Value.V, vI q25.1.Promise.Value.Primary, vW q25.1.Promise.Value.PLife, vI q25.1.Promise.Value.Backup, vW q25.1.Promise.Value.BLife, vW q25.1.Promise.Value.Epoch, vW q25.1.Promise.Chosen.V, vI q25.1.Promise.Chosen.Primary, vW q25.1.Promise.Chosen.PLife, vI q25.1.Promise.Chosen.Backup, vW q25.1.Promise.Chosen.BLife, vW q25.1.Promise.Chosen.Epoch, vW q25.1.Seq, vW q25.1.Done, vW q25.1.Life, g26.Records, vI q25.1.Piece.N, vI q25.1.Piece.Of, vS q25.1.Piece.Data, vS q25.1.Piece.Sum, vS q25.1.Piece.Whole, vS q25.1.Digest, g26.Sums, vW q25.1.Session, vW q25.1.Num, vI q25.1.Op.Kind, vS q25.1.Op.Key, vS q25.1.Op.Value, vW q25.1.Op.TTL, vW q25.1.Op.Version, vI q25.1.Reply.E, vS q25.1.Reply.Value, vW q25.1.Reply.Version] ag37 rfl rfl rfl rfl) (fun _ h => st_pk 5 [1, 2, 4] (by decide) h) (Le.refl _) (.inl ⟨_, rfl, _, rfl, g26, rfl, rfl, rfl⟩)
        · refine c_blk ?_
          refine c_seq ?_
          refine c_reg ?_
          refine r_u (o_bin rfl rfl (bI_eq q17.1.Kind 3)) ?_
          refine r_u (o_as rfl) ?_
          refine r_nil ?_
          refine x_seq ?_
          obtain ⟨p32, hp37, hm38⟩ := bs hp29
          refine cd_cut (fun x ks => ∀ (q33 : api_Say × Str), ∀ (_ : p32 = Sum.inl q33), ∀ (g34 : api_Say.G), EX x .normal ks [(2, pt b0 0), (3, pt b9 0)] R (Bk b9 37 [vI q33.1.Kind, vW q33.1.View.V, vI q33.1.View.Primary, vW q33.1.View.PLife, vI q33.1.View.Backup, vW q33.1.View.BLife, vW q33.1.View.Epoch, vW q33.1.Value.V, vI q33.1.Value.Primary, vW q33.1.Value.PLife, vI q33.1.Value.Backup, vW q33.1.Value.BLife, vW q33.1.Value.Epoch, vW q33.1.Ballot, vB q33.1.Promise.OK, vW q33.1.Promise.V, vW q33.1.Promise.Most, vW q33.1.Promise.Ballot, vW q33.1.Promise.Value.V, vI q33.1.Promise.Value.Primary, vW q33.1.Promise.Value.PLife, vI q33.1.Promise.Value.Backup, vW q33.1.Promise.Value.BLife, vW q33.1.Promise.Value.Epoch, vW q33.1.Promise.Chosen.V, vI q33.1.Promise.Chosen.Primary, vW q33.1.Promise.Chosen.PLife, vI q33.1.Promise.Chosen.Backup, vW q33.1.Promise.Chosen.BLife, vW q33.1.Promise.Chosen.Epoch, vW q33.1.Seq, vW q33.1.Done, vW q33.1.Life, g34.Records, vI q33.1.Piece.N, vI q33.1.Piece.Of, vS q33.1.Piece.Data, vS q33.1.Piece.Sum, vS q33.1.Piece.Whole, vS q33.1.Digest, g34.Sums, vW q33.1.Session, vW q33.1.Num, vI q33.1.Op.Kind, vS q33.1.Op.Key, vS q33.1.Op.Value, vW q33.1.Op.TTL, vW q33.1.Op.Version, vI q33.1.Reply.E, vS q33.1.Reply.Value, vW q33.1.Reply.Version] :: Bk b0_ 114 [vS q33.2] :: Bk b0 37 [vI 0, vW 0, vI 0, vW 0, vI 0, vW 0, vW 0, vW 0, vI 0, vW 0, vI 0, vW 0, vW 0, vW 0, vB false, vW 0, vW 0, vW 0, vW 0, vI 0, vW 0, vI 0, vW 0, vW 0, vW 0, vI 0, vW 0, vI 0, vW 0, vW 0, vW 0, vW 0, vW 0, .slice none 0 0, vI 0, vI 0, vS [], vS [], vS [], vS [], .slice none 0 0, vW 0, vW 0, vI 0, vS [], vS [], vW 0, vW 0, vI 0, vS [], vW 0] :: OwS true 89 9 api_Record.c g34.Records q33.1.Records :: OwS true 9 1 eS g34.Sums q33.1.Sums :: F)) ?_ fun K39 => ?_
          · intro q33 hq g34
            subst hq
            try dsimp only at hm38
            refine x_blk ?_
            obtain rfl := Option.some.inj hm38
            exact x_sub (K31 _ rfl g34) ⟨rfl, rfl, trivial⟩ (fun _ h => st_pk 5 [0, 1, 2, 3, 4] (by decide) h)
          · refine c_if (b := (q17.1.Kind == 3)) rfl (fun h40 => ?_) fun h40 => ?_
            · have hm41 := ift hp37 h40
              clear hp37
              obtain ⟨r42, hr42, hm43⟩ := bs hm41
              clear hm41
              rcases r42 with ra44 | ⟨rn45, ro46⟩
              · have hm47 := sm_l hm43
                clear hm43
                refine c_reg ?_
                refine r_u (o_mv rfl) ?_
                refine rl_st (fun _ h => st_pk 5 [1, 0, 2, 3, 4] (by decide) h) ?_
                refine r_c (s_w (o_callL ca72 rfl (wire_Reader_Num.ok b0_ (⟨q17.2⟩ : wire_Reader) 18446744073709551615 (Sum.inl ra44) hr42) (fun _ _ _ h => h))) ?_
                refine r_u (o_fa fa37_3 rfl) ?_
                refine rl_st (fun _ h => st_pk 5 [1, 0, 2, 3, 4] (by decide) h) ?_
                refine r_u0 (o_st sc22 rfl rfl rfl rfl rfl rfl) ?_
                refine r_nil ?_
                obtain rfl := Option.some.inj hm47
                exact x_sub (K39 _ rfl g18) ⟨rfl, rfl, trivial⟩ (fun _ h => st_pk 5 [0, 1, 2, 3, 4] (by decide) h)
              · have hm47 := sm_r hm43
                clear hm43
                refine c_reg ?_
                refine r_u (o_mv rfl) ?_
                refine rl_st (fun _ h => st_pk 5 [1, 0, 2, 3, 4] (by decide) h) ?_
                obtain rfl := Option.some.inj hm47
                try dsimp only at hm38
                obtain rfl := Option.some.inj hm38
                try dsimp only at hm30
                obtain rfl := Option.some.inj hm30
                exact r_sw (s_w (o_callR ca72 rfl (wire_Reader_Num.ok b0_ (⟨q17.2⟩ : wire_Reader) 18446744073709551615 (Sum.inr (rn45, ro46)) hr42) (by rintro _ _ _ ⟨rfl, rfl⟩; exact (px_st (fun _ h => st_pk 5 [0] (by decide) h) (px_of (Le.refl _) (.inr ⟨_, rfl, _, rfl, rfl, rfl⟩)))))) (fun _ _ _ _ h => h.elim)
            · have hm41 := iff_ hp37 h40
              clear hp37
              refine c_seq ?_
              refine c_reg ?_
              refine r_u (o_bin rfl rfl (bI_eq q17.1.Kind 5)) ?_
              refine r_u (o_as rfl) ?_
              refine r_nil ?_
              refine x_seq ?_
              obtain ⟨p48, hp53, hm54⟩ := bs hm41
              refine cd_cut (fun x ks => ∀ (q49 : api_Say × Str), ∀ (_ : p48 = Sum.inl q49), ∀ (g50 : api_Say.G), EX x .normal ks [(2, pt b0 0), (3, pt b9 0)] R (Bk b9 37 [vI q49.1.Kind, vW q49.1.View.V, vI q49.1.View.Primary, vW q49.1.View.PLife, vI q49.1.View.Backup, vW q49.1.View.BLife, vW q49.1.View.Epoch, vW q49.1.Value.V, vI q49.1.Value.Primary, vW q49.1.Value.PLife, vI q49.1.Value.Backup, vW q49.1.Value.BLife, vW q49.1.Value.Epoch, vW q49.1.Ballot, vB q49.1.Promise.OK, vW q49.1.Promise.V, vW q49.1.Promise.Most, vW q49.1.Promise.Ballot, vW q49.1.Promise.Value.V, vI q49.1.Promise.Value.Primary, vW q49.1.Promise.Value.PLife, vI q49.1.Promise.Value.Backup, vW q49.1.Promise.Value.BLife, vW q49.1.Promise.Value.Epoch, vW q49.1.Promise.Chosen.V, vI q49.1.Promise.Chosen.Primary, vW q49.1.Promise.Chosen.PLife, vI q49.1.Promise.Chosen.Backup, vW q49.1.Promise.Chosen.BLife, vW q49.1.Promise.Chosen.Epoch, vW q49.1.Seq, vW q49.1.Done, vW q49.1.Life, g50.Records, vI q49.1.Piece.N, vI q49.1.Piece.Of, vS q49.1.Piece.Data, vS q49.1.Piece.Sum, vS q49.1.Piece.Whole, vS q49.1.Digest, g50.Sums, vW q49.1.Session, vW q49.1.Num, vI q49.1.Op.Kind, vS q49.1.Op.Key, vS q49.1.Op.Value, vW q49.1.Op.TTL, vW q49.1.Op.Version, vI q49.1.Reply.E, vS q49.1.Reply.Value, vW q49.1.Reply.Version] :: Bk b0_ 114 [vS q49.2] :: Bk b0 37 [vI 0, vW 0, vI 0, vW 0, vI 0, vW 0, vW 0, vW 0, vI 0, vW 0, vI 0, vW 0, vW 0, vW 0, vB false, vW 0, vW 0, vW 0, vW 0, vI 0, vW 0, vI 0, vW 0, vW 0, vW 0, vI 0, vW 0, vI 0, vW 0, vW 0, vW 0, vW 0, vW 0, .slice none 0 0, vI 0, vI 0, vS [], vS [], vS [], vS [], .slice none 0 0, vW 0, vW 0, vI 0, vS [], vS [], vW 0, vW 0, vI 0, vS [], vW 0] :: OwS true 89 9 api_Record.c g50.Records q49.1.Records :: OwS true 9 1 eS g50.Sums q49.1.Sums :: F)) ?_ fun K55 => ?_
              · intro q49 hq g50
                subst hq
                try dsimp only at hm54
                obtain rfl := Option.some.inj hm54
                exact x_sub (K39 _ rfl g50) ⟨rfl, rfl, trivial⟩ (fun _ h => st_pk 5 [0, 1, 2, 3, 4] (by decide) h)
              · refine c_if (b := (q17.1.Kind == 5)) rfl (fun h56 => ?_) fun h56 => ?_
                · have hm57 := ift hp53 h56
                  clear hp53
                  obtain ⟨r58, hr58, hm59⟩ := bs hm57
                  clear hm57
                  rcases r58 with ra60 | ⟨rn61, ro62⟩
                  · have hm63 := sm_l hm59
                    clear hm59
                    obtain ⟨r64, hr64, hm65⟩ := bs hm63
                    clear hm63
                    rcases r64 with ra66 | ⟨rn67, ro68⟩
                    · have hm69 := sm_l hm65
                      clear hm65
                      refine c_reg ?_
                      refine r_u (o_mv rfl) ?_
                      refine rl_st (fun _ h => st_pk 5 [1, 0, 2, 3, 4] (by decide) h) ?_
                      refine r_c (s_w (o_callL ca72 rfl (wire_Reader_Num.ok b0_ (⟨q17.2⟩ : wire_Reader) 18446744073709551615 (Sum.inl ra60) hr58) (fun _ _ _ h => h))) ?_
                      refine r_u (o_mv rfl) ?_
                      refine r_c (s_w (o_callL ca74 rfl (cell_TakeView.ok b0_ ra60.2 (Sum.inl ra66) hr64) (fun _ _ _ h => h))) ?_
                      refine r_u (o_fa fa37_3 rfl) ?_
                      refine rl_st (fun _ h => st_pk 5 [1, 0, 2, 3, 4] (by decide) h) ?_
                      refine r_u0 (o_st sc22 rfl rfl rfl rfl rfl rfl) ?_
                      refine r_u (o_fa fa37_2 rfl) ?_
                      refine r_u0 (o_stn ag24 rfl rfl rfl rfl rfl rfl rfl) ?_
                      refine r_nil ?_
                      obtain rfl := Option.some.inj hm69
                      exact x_sub (K55 _ rfl g18) ⟨rfl, rfl, trivial⟩ (fun _ h => st_pk 5 [0, 1, 2, 3, 4] (by decide) h)
                    · have hm69 := sm_r hm65
                      clear hm65
                      refine c_reg ?_
                      refine r_u (o_mv rfl) ?_
                      refine rl_st (fun _ h => st_pk 5 [1, 0, 2, 3, 4] (by decide) h) ?_
                      refine r_c (s_w (o_callL ca72 rfl (wire_Reader_Num.ok b0_ (⟨q17.2⟩ : wire_Reader) 18446744073709551615 (Sum.inl ra60) hr58) (fun _ _ _ h => h))) ?_
                      refine r_u (o_mv rfl) ?_
                      obtain rfl := Option.some.inj hm69
                      try dsimp only at hm54
                      obtain rfl := Option.some.inj hm54
                      try dsimp only at hm38
                      obtain rfl := Option.some.inj hm38
                      try dsimp only at hm30
                      obtain rfl := Option.some.inj hm30
                      exact r_sw (s_w (o_callR ca74 rfl (cell_TakeView.ok b0_ ra60.2 (Sum.inr (rn67, ro68)) hr64) (by rintro _ _ _ ⟨rfl, rfl⟩; exact (px_st (fun _ h => st_pk 5 [0] (by decide) h) (px_of (Le.refl _) (.inr ⟨_, rfl, _, rfl, rfl, rfl⟩)))))) (fun _ _ _ _ h => h.elim)
                  · have hm63 := sm_r hm59
                    clear hm59
                    refine c_reg ?_
                    refine r_u (o_mv rfl) ?_
                    refine rl_st (fun _ h => st_pk 5 [1, 0, 2, 3, 4] (by decide) h) ?_
                    obtain rfl := Option.some.inj hm63
                    try dsimp only at hm54
                    obtain rfl := Option.some.inj hm54
                    try dsimp only at hm38
                    obtain rfl := Option.some.inj hm38
                    try dsimp only at hm30
                    obtain rfl := Option.some.inj hm30
                    exact r_sw (s_w (o_callR ca72 rfl (wire_Reader_Num.ok b0_ (⟨q17.2⟩ : wire_Reader) 18446744073709551615 (Sum.inr (rn61, ro62)) hr58) (by rintro _ _ _ ⟨rfl, rfl⟩; exact (px_st (fun _ h => st_pk 5 [0] (by decide) h) (px_of (Le.refl _) (.inr ⟨_, rfl, _, rfl, rfl, rfl⟩)))))) (fun _ _ _ _ h => h.elim)
                · have hm57 := iff_ hp53 h56
                  clear hp53
                  refine c_seq ?_
                  refine c_seq ?_
                  refine c_reg ?_
                  refine r_u (o_bin rfl rfl (bI_eq q17.1.Kind 4)) ?_
                  refine r_u (o_as rfl) ?_
                  refine r_nil ?_
                  refine x_seq ?_
                  obtain ⟨p70, hp71, hm72⟩ := bs hm57
                  refine cd_join (E' := [(0, pt b0_ 0), (2, pt b0 0), (3, pt b9 0), (25, vI q17.1.Kind), (39, vB p70)]) (L' := Bk b9 37 [vI q17.1.Kind, vW q17.1.View.V, vI q17.1.View.Primary, vW q17.1.View.PLife, vI q17.1.View.Backup, vW q17.1.View.BLife, vW q17.1.View.Epoch, vW q17.1.Value.V, vI q17.1.Value.Primary, vW q17.1.Value.PLife, vI q17.1.Value.Backup, vW q17.1.Value.BLife, vW q17.1.Value.Epoch, vW q17.1.Ballot, vB q17.1.Promise.OK, vW q17.1.Promise.V, vW q17.1.Promise.Most, vW q17.1.Promise.Ballot, vW q17.1.Promise.Value.V, vI q17.1.Promise.Value.Primary, vW q17.1.Promise.Value.PLife, vI q17.1.Promise.Value.Backup, vW q17.1.Promise.Value.BLife, vW q17.1.Promise.Value.Epoch, vW q17.1.Promise.Chosen.V, vI q17.1.Promise.Chosen.Primary, vW q17.1.Promise.Chosen.PLife, vI q17.1.Promise.Chosen.Backup, vW q17.1.Promise.Chosen.BLife, vW q17.1.Promise.Chosen.Epoch, vW q17.1.Seq, vW q17.1.Done, vW q17.1.Life, g18.Records, vI q17.1.Piece.N, vI q17.1.Piece.Of, vS q17.1.Piece.Data, vS q17.1.Piece.Sum, vS q17.1.Piece.Whole, vS q17.1.Digest, g18.Sums, vW q17.1.Session, vW q17.1.Num, vI q17.1.Op.Kind, vS q17.1.Op.Key, vS q17.1.Op.Value, vW q17.1.Op.TTL, vW q17.1.Op.Version, vI q17.1.Reply.E, vS q17.1.Reply.Value, vW q17.1.Reply.Version] :: Bk b0_ 114 [vS q17.2] :: Bk b0 37 [vI 0, vW 0, vI 0, vW 0, vI 0, vW 0, vW 0, vW 0, vI 0, vW 0, vI 0, vW 0, vW 0, vW 0, vB false, vW 0, vW 0, vW 0, vW 0, vI 0, vW 0, vI 0, vW 0, vW 0, vW 0, vI 0, vW 0, vI 0, vW 0, vW 0, vW 0, vW 0, vW 0, .slice none 0 0, vI 0, vI 0, vS [], vS [], vS [], vS [], .slice none 0 0, vW 0, vW 0, vI 0, vS [], vS [], vW 0, vW 0, vI 0, vS [], vW 0] :: OwS true 89 9 api_Record.c g18.Records q17.1.Records :: OwS true 9 1 eS g18.Sums q17.1.Sums :: F) ?_ fun K73 => ?_
                  · refine x_seq ?_
                    obtain ⟨p74, hp79, hm80⟩ := bs hm72
                    refine cd_cut (fun x ks => ∀ (q75 : api_Say × Str), ∀ (_ : p74 = Sum.inl q75), ∀ (g76 : api_Say.G), EX x .normal ks [(2, pt b0 0), (3, pt b9 0)] R (Bk b9 37 [vI q75.1.Kind, vW q75.1.View.V, vI q75.1.View.Primary, vW q75.1.View.PLife, vI q75.1.View.Backup, vW q75.1.View.BLife, vW q75.1.View.Epoch, vW q75.1.Value.V, vI q75.1.Value.Primary, vW q75.1.Value.PLife, vI q75.1.Value.Backup, vW q75.1.Value.BLife, vW q75.1.Value.Epoch, vW q75.1.Ballot, vB q75.1.Promise.OK, vW q75.1.Promise.V, vW q75.1.Promise.Most, vW q75.1.Promise.Ballot, vW q75.1.Promise.Value.V, vI q75.1.Promise.Value.Primary, vW q75.1.Promise.Value.PLife, vI q75.1.Promise.Value.Backup, vW q75.1.Promise.Value.BLife, vW q75.1.Promise.Value.Epoch, vW q75.1.Promise.Chosen.V, vI q75.1.Promise.Chosen.Primary, vW q75.1.Promise.Chosen.PLife, vI q75.1.Promise.Chosen.Backup, vW q75.1.Promise.Chosen.BLife, vW q75.1.Promise.Chosen.Epoch, vW q75.1.Seq, vW q75.1.Done, vW q75.1.Life, g76.Records, vI q75.1.Piece.N, vI q75.1.Piece.Of, vS q75.1.Piece.Data, vS q75.1.Piece.Sum, vS q75.1.Piece.Whole, vS q75.1.Digest, g76.Sums, vW q75.1.Session, vW q75.1.Num, vI q75.1.Op.Kind, vS q75.1.Op.Key, vS q75.1.Op.Value, vW q75.1.Op.TTL, vW q75.1.Op.Version, vI q75.1.Reply.E, vS q75.1.Reply.Value, vW q75.1.Reply.Version] :: Bk b0_ 114 [vS q75.2] :: Bk b0 37 [vI 0, vW 0, vI 0, vW 0, vI 0, vW 0, vW 0, vW 0, vI 0, vW 0, vI 0, vW 0, vW 0, vW 0, vB false, vW 0, vW 0, vW 0, vW 0, vI 0, vW 0, vI 0, vW 0, vW 0, vW 0, vI 0, vW 0, vI 0, vW 0, vW 0, vW 0, vW 0, vW 0, .slice none 0 0, vI 0, vI 0, vS [], vS [], vS [], vS [], .slice none 0 0, vW 0, vW 0, vI 0, vS [], vS [], vW 0, vW 0, vI 0, vS [], vW 0] :: OwS true 89 9 api_Record.c g76.Records q75.1.Records :: OwS true 9 1 eS g76.Sums q75.1.Sums :: F)) ?_ fun K81 => ?_
                    · intro q75 hq g76
                      subst hq
                      try dsimp only at hm80
                      obtain rfl := Option.some.inj hm80
                      exact x_sub (K55 _ rfl g76) ⟨rfl, rfl, trivial⟩ (fun _ h => st_pk 5 [0, 1, 2, 3, 4] (by decide) h)
                    · refine c_if (b := p70) rfl (fun h82 => ?_) fun h82 => ?_
                      · have hm83 := ift hp79 h82
                        clear hp79
                        obtain ⟨r84, hr84, hm85⟩ := bs hm83
                        clear hm83
                        rcases r84 with ra86 | ⟨rn87, ro88⟩
                        · have hm89 := sm_l hm85
                          clear hm85
                          obtain ⟨r90, hr90, hm91⟩ := bs hm89
                          clear hm89
                          rcases r90 with ra92 | ⟨rn93, ro94⟩
                          · have hm95 := sm_l hm91
                            clear hm91
                            refine c_reg ?_
                            refine r_u (o_mv rfl) ?_
                            refine rl_st (fun _ h => st_pk 5 [1, 0, 2, 3, 4] (by decide) h) ?_
                            refine r_c (s_w (o_callL ca72 rfl (wire_Reader_Num.ok b0_ (⟨q17.2⟩ : wire_Reader) 18446744073709551615 (Sum.inl ra86) hr84) (fun _ _ _ h => h))) ?_
                            refine r_u (o_mv rfl) ?_
                            refine r_c (s_w (o_callL ca75 rfl (say_takePromise.ok b0_ ra86.2 (Sum.inl ra92) hr90) (fun _ _ _ h => h))) ?_
                            refine r_u (o_fa fa37_3 rfl) ?_
                            refine rl_st (fun _ h => st_pk 5 [1, 0, 2, 3, 4] (by decide) h) ?_
                            refine r_u0 (o_st sc22 rfl rfl rfl rfl rfl rfl) ?_
                            refine r_u (o_fa fa37_4 rfl) ?_
                            refine r_u0 (o_stn ag26 rfl rfl rfl rfl rfl rfl rfl) ?_
                            refine r_nil ?_
                            obtain rfl := Option.some.inj hm95
                            exact x_sub (K81 _ rfl g18) ⟨rfl, rfl, trivial⟩ (fun _ h => st_pk 5 [0, 1, 2, 3, 4] (by decide) h)
                          · have hm95 := sm_r hm91
                            clear hm91
                            refine c_reg ?_
                            refine r_u (o_mv rfl) ?_
                            refine rl_st (fun _ h => st_pk 5 [1, 0, 2, 3, 4] (by decide) h) ?_
                            refine r_c (s_w (o_callL ca72 rfl (wire_Reader_Num.ok b0_ (⟨q17.2⟩ : wire_Reader) 18446744073709551615 (Sum.inl ra86) hr84) (fun _ _ _ h => h))) ?_
                            refine r_u (o_mv rfl) ?_
                            obtain rfl := Option.some.inj hm95
                            try dsimp only at hm80
                            obtain rfl := Option.some.inj hm80
                            try dsimp only at hm54
                            obtain rfl := Option.some.inj hm54
                            try dsimp only at hm38
                            obtain rfl := Option.some.inj hm38
                            try dsimp only at hm30
                            obtain rfl := Option.some.inj hm30
                            exact r_sw (s_w (o_callR ca75 rfl (say_takePromise.ok b0_ ra86.2 (Sum.inr (rn93, ro94)) hr90) (by rintro _ _ _ ⟨rfl, rfl⟩; exact (px_st (fun _ h => st_pk 5 [0] (by decide) h) (px_of (Le.refl _) (.inr ⟨_, rfl, _, rfl, rfl, rfl⟩)))))) (fun _ _ _ _ h => h.elim)
                        · have hm89 := sm_r hm85
                          clear hm85
                          refine c_reg ?_
                          refine r_u (o_mv rfl) ?_
                          refine rl_st (fun _ h => st_pk 5 [1, 0, 2, 3, 4] (by decide) h) ?_
                          obtain rfl := Option.some.inj hm89
                          try dsimp only at hm80
                          obtain rfl := Option.some.inj hm80
                          try dsimp only at hm54
                          obtain rfl := Option.some.inj hm54
                          try dsimp only at hm38
                          obtain rfl := Option.some.inj hm38
                          try dsimp only at hm30
                          obtain rfl := Option.some.inj hm30
                          exact r_sw (s_w (o_callR ca72 rfl (wire_Reader_Num.ok b0_ (⟨q17.2⟩ : wire_Reader) 18446744073709551615 (Sum.inr (rn87, ro88)) hr84) (by rintro _ _ _ ⟨rfl, rfl⟩; exact (px_st (fun _ h => st_pk 5 [0] (by decide) h) (px_of (Le.refl _) (.inr ⟨_, rfl, _, rfl, rfl, rfl⟩)))))) (fun _ _ _ _ h => h.elim)
                      · have hm83 := iff_ hp79 h82
                        clear hp79
                        refine c_seq ?_
                        refine c_reg ?_
                        refine r_u (o_bin rfl rfl (bI_eq q17.1.Kind 7)) ?_
                        refine r_u (o_as rfl) ?_
                        refine r_nil ?_
                        refine x_seq ?_
                        obtain ⟨p96, hp101, hm102⟩ := bs hm83
                        refine cd_cut (fun x ks => ∀ (q97 : api_Say × Str), ∀ (_ : p96 = Sum.inl q97), ∀ (g98 : api_Say.G), EX x .normal ks [(2, pt b0 0), (3, pt b9 0)] R (Bk b9 37 [vI q97.1.Kind, vW q97.1.View.V, vI q97.1.View.Primary, vW q97.1.View.PLife, vI q97.1.View.Backup, vW q97.1.View.BLife, vW q97.1.View.Epoch, vW q97.1.Value.V, vI q97.1.Value.Primary, vW q97.1.Value.PLife, vI q97.1.Value.Backup, vW q97.1.Value.BLife, vW q97.1.Value.Epoch, vW q97.1.Ballot, vB q97.1.Promise.OK, vW q97.1.Promise.V, vW q97.1.Promise.Most, vW q97.1.Promise.Ballot, vW q97.1.Promise.Value.V, vI q97.1.Promise.Value.Primary, vW q97.1.Promise.Value.PLife, vI q97.1.Promise.Value.Backup, vW q97.1.Promise.Value.BLife, vW q97.1.Promise.Value.Epoch, vW q97.1.Promise.Chosen.V, vI q97.1.Promise.Chosen.Primary, vW q97.1.Promise.Chosen.PLife, vI q97.1.Promise.Chosen.Backup, vW q97.1.Promise.Chosen.BLife, vW q97.1.Promise.Chosen.Epoch, vW q97.1.Seq, vW q97.1.Done, vW q97.1.Life, g98.Records, vI q97.1.Piece.N, vI q97.1.Piece.Of, vS q97.1.Piece.Data, vS q97.1.Piece.Sum, vS q97.1.Piece.Whole, vS q97.1.Digest, g98.Sums, vW q97.1.Session, vW q97.1.Num, vI q97.1.Op.Kind, vS q97.1.Op.Key, vS q97.1.Op.Value, vW q97.1.Op.TTL, vW q97.1.Op.Version, vI q97.1.Reply.E, vS q97.1.Reply.Value, vW q97.1.Reply.Version] :: Bk b0_ 114 [vS q97.2] :: Bk b0 37 [vI 0, vW 0, vI 0, vW 0, vI 0, vW 0, vW 0, vW 0, vI 0, vW 0, vI 0, vW 0, vW 0, vW 0, vB false, vW 0, vW 0, vW 0, vW 0, vI 0, vW 0, vI 0, vW 0, vW 0, vW 0, vI 0, vW 0, vI 0, vW 0, vW 0, vW 0, vW 0, vW 0, .slice none 0 0, vI 0, vI 0, vS [], vS [], vS [], vS [], .slice none 0 0, vW 0, vW 0, vI 0, vS [], vS [], vW 0, vW 0, vI 0, vS [], vW 0] :: OwS true 89 9 api_Record.c g98.Records q97.1.Records :: OwS true 9 1 eS g98.Sums q97.1.Sums :: F)) ?_ fun K103 => ?_
                        · intro q97 hq g98
                          subst hq
                          try dsimp only at hm102
                          obtain rfl := Option.some.inj hm102
                          exact x_sub (K81 _ rfl g98) ⟨rfl, rfl, trivial⟩ (fun _ h => st_pk 5 [0, 1, 2, 3, 4] (by decide) h)
                        · refine c_if (b := (q17.1.Kind == 7)) rfl (fun h104 => ?_) fun h104 => ?_
                          · have hm105 := ift hp101 h104
                            clear hp101
                            obtain ⟨r106, hr106, hm107⟩ := bs hm105
                            clear hm105
                            rcases r106 with ra108 | ⟨rn109, ro110⟩
                            · have hm111 := sm_l hm107
                              clear hm107
                              obtain ⟨r112, hr112, hm113⟩ := bs hm111
                              clear hm111
                              rcases r112 with ra114 | ⟨rn115, ro116⟩
                              · have hm117 := sm_l hm113
                                clear hm113
                                refine c_reg ?_
                                refine r_u (o_mv rfl) ?_
                                refine rl_st (fun _ h => st_pk 5 [1, 0, 2, 3, 4] (by decide) h) ?_
                                refine r_c (s_w (o_callL ca72 rfl (wire_Reader_Num.ok b0_ (⟨q17.2⟩ : wire_Reader) 18446744073709551615 (Sum.inl ra108) hr106) (fun _ _ _ h => h))) ?_
                                refine r_u (o_mv rfl) ?_
                                refine r_sw (s_w (o_callL ca76 rfl (say_takeRecords.ok b0_ ra108.2 (Sum.inl ra114) hr112) (fun _ _ _ h => h))) ?_
                                rintro v118 R _ _ ⟨_, rfl, rfl, rfl⟩
                                refine r_u (o_fa fa37_6 rfl) ?_
                                refine rl_st (fun _ h => st_pk 6 [2, 0, 1, 3, 4, 5] (by decide) h) ?_
                                refine r_u0 (o_st sc22 rfl rfl rfl rfl rfl rfl) ?_
                                refine r_u (o_fa fa37_8 rfl) ?_
                                refine r_u0 (ou_if (one_o 1 rfl) fun ho0 => o_st sc27 rfl rfl rfl ho0 rfl rfl) ?_
                                refine r_nil ?_
                                obtain rfl := Option.some.inj hm117
                                exact x_sub (K103 _ rfl (⟨v118, g18.Sums⟩ : api_Say.G)) ⟨rfl, rfl, trivial⟩ (fun _ h => st_pk 6 [0, 2, 3, 1, 5] (by decide) h)
                              · have hm117 := sm_r hm113
                                clear hm113
                                refine c_reg ?_
                                refine r_u (o_mv rfl) ?_
                                refine rl_st (fun _ h => st_pk 5 [1, 0, 2, 3, 4] (by decide) h) ?_
                                refine r_c (s_w (o_callL ca72 rfl (wire_Reader_Num.ok b0_ (⟨q17.2⟩ : wire_Reader) 18446744073709551615 (Sum.inl ra108) hr106) (fun _ _ _ h => h))) ?_
                                refine r_u (o_mv rfl) ?_
                                obtain rfl := Option.some.inj hm117
                                try dsimp only at hm102
                                obtain rfl := Option.some.inj hm102
                                try dsimp only at hm80
                                obtain rfl := Option.some.inj hm80
                                try dsimp only at hm54
                                obtain rfl := Option.some.inj hm54
                                try dsimp only at hm38
                                obtain rfl := Option.some.inj hm38
                                try dsimp only at hm30
                                obtain rfl := Option.some.inj hm30
                                exact r_sw (s_w (o_callR ca76 rfl (say_takeRecords.ok b0_ ra108.2 (Sum.inr (rn115, ro116)) hr112) (by rintro _ _ _ ⟨rfl, rfl⟩; exact (px_st (fun _ h => st_pk 5 [0] (by decide) h) (px_of (Le.refl _) (.inr ⟨_, rfl, _, rfl, rfl, rfl⟩)))))) (fun _ _ _ _ h => h.elim)
                            · have hm111 := sm_r hm107
                              clear hm107
                              refine c_reg ?_
                              refine r_u (o_mv rfl) ?_
                              refine rl_st (fun _ h => st_pk 5 [1, 0, 2, 3, 4] (by decide) h) ?_
                              obtain rfl := Option.some.inj hm111
                              try dsimp only at hm102
                              obtain rfl := Option.some.inj hm102
                              try dsimp only at hm80
                              obtain rfl := Option.some.inj hm80
                              try dsimp only at hm54
                              obtain rfl := Option.some.inj hm54
                              try dsimp only at hm38
                              obtain rfl := Option.some.inj hm38
                              try dsimp only at hm30
                              obtain rfl := Option.some.inj hm30
                              exact r_sw (s_w (o_callR ca72 rfl (wire_Reader_Num.ok b0_ (⟨q17.2⟩ : wire_Reader) 18446744073709551615 (Sum.inr (rn109, ro110)) hr106) (by rintro _ _ _ ⟨rfl, rfl⟩; exact (px_st (fun _ h => st_pk 5 [0] (by decide) h) (px_of (Le.refl _) (.inr ⟨_, rfl, _, rfl, rfl, rfl⟩)))))) (fun _ _ _ _ h => h.elim)
                          · have hm105 := iff_ hp101 h104
                            clear hp101
                            refine c_seq ?_
                            refine c_reg ?_
                            refine r_u (o_bin rfl rfl (bI_eq q17.1.Kind 8)) ?_
                            refine r_u (o_as rfl) ?_
                            refine r_nil ?_
                            refine x_seq ?_
                            obtain ⟨p119, hp124, hm125⟩ := bs hm105
                            refine cd_cut (fun x ks => ∀ (q120 : api_Say × Str), ∀ (_ : p119 = Sum.inl q120), ∀ (g121 : api_Say.G), EX x .normal ks [(2, pt b0 0), (3, pt b9 0)] R (Bk b9 37 [vI q120.1.Kind, vW q120.1.View.V, vI q120.1.View.Primary, vW q120.1.View.PLife, vI q120.1.View.Backup, vW q120.1.View.BLife, vW q120.1.View.Epoch, vW q120.1.Value.V, vI q120.1.Value.Primary, vW q120.1.Value.PLife, vI q120.1.Value.Backup, vW q120.1.Value.BLife, vW q120.1.Value.Epoch, vW q120.1.Ballot, vB q120.1.Promise.OK, vW q120.1.Promise.V, vW q120.1.Promise.Most, vW q120.1.Promise.Ballot, vW q120.1.Promise.Value.V, vI q120.1.Promise.Value.Primary, vW q120.1.Promise.Value.PLife, vI q120.1.Promise.Value.Backup, vW q120.1.Promise.Value.BLife, vW q120.1.Promise.Value.Epoch, vW q120.1.Promise.Chosen.V, vI q120.1.Promise.Chosen.Primary, vW q120.1.Promise.Chosen.PLife, vI q120.1.Promise.Chosen.Backup, vW q120.1.Promise.Chosen.BLife, vW q120.1.Promise.Chosen.Epoch, vW q120.1.Seq, vW q120.1.Done, vW q120.1.Life, g121.Records, vI q120.1.Piece.N, vI q120.1.Piece.Of, vS q120.1.Piece.Data, vS q120.1.Piece.Sum, vS q120.1.Piece.Whole, vS q120.1.Digest, g121.Sums, vW q120.1.Session, vW q120.1.Num, vI q120.1.Op.Kind, vS q120.1.Op.Key, vS q120.1.Op.Value, vW q120.1.Op.TTL, vW q120.1.Op.Version, vI q120.1.Reply.E, vS q120.1.Reply.Value, vW q120.1.Reply.Version] :: Bk b0_ 114 [vS q120.2] :: Bk b0 37 [vI 0, vW 0, vI 0, vW 0, vI 0, vW 0, vW 0, vW 0, vI 0, vW 0, vI 0, vW 0, vW 0, vW 0, vB false, vW 0, vW 0, vW 0, vW 0, vI 0, vW 0, vI 0, vW 0, vW 0, vW 0, vI 0, vW 0, vI 0, vW 0, vW 0, vW 0, vW 0, vW 0, .slice none 0 0, vI 0, vI 0, vS [], vS [], vS [], vS [], .slice none 0 0, vW 0, vW 0, vI 0, vS [], vS [], vW 0, vW 0, vI 0, vS [], vW 0] :: OwS true 89 9 api_Record.c g121.Records q120.1.Records :: OwS true 9 1 eS g121.Sums q120.1.Sums :: F)) ?_ fun K126 => ?_
                            · intro q120 hq g121
                              subst hq
                              try dsimp only at hm125
                              obtain rfl := Option.some.inj hm125
                              exact x_sub (K103 _ rfl g121) ⟨rfl, rfl, trivial⟩ (fun _ h => st_pk 5 [0, 1, 2, 3, 4] (by decide) h)
                            · refine c_if (b := (q17.1.Kind == 8)) rfl (fun h127 => ?_) fun h127 => ?_
                              · have hm128 := ift hp124 h127
                                clear hp124
                                obtain ⟨r129, hr129, hm130⟩ := bs hm128
                                clear hm128
                                rcases r129 with ra131 | ⟨rn132, ro133⟩
                                · have hm134 := sm_l hm130
                                  clear hm130
                                  refine c_reg ?_
                                  refine r_u (o_mv rfl) ?_
                                  refine rl_st (fun _ h => st_pk 5 [1, 0, 2, 3, 4] (by decide) h) ?_
                                  refine r_c (s_w (o_callL ca72 rfl (wire_Reader_Num.ok b0_ (⟨q17.2⟩ : wire_Reader) 18446744073709551615 (Sum.inl ra131) hr129) (fun _ _ _ h => h))) ?_
                                  refine r_u (o_fa fa37_5 rfl) ?_
                                  refine rl_st (fun _ h => st_pk 5 [1, 0, 2, 3, 4] (by decide) h) ?_
                                  refine r_u0 (o_st sc22 rfl rfl rfl rfl rfl rfl) ?_
                                  refine r_nil ?_
                                  obtain rfl := Option.some.inj hm134
                                  exact x_sub (K126 _ rfl g18) ⟨rfl, rfl, trivial⟩ (fun _ h => st_pk 5 [0, 1, 2, 3, 4] (by decide) h)
                                · have hm134 := sm_r hm130
                                  clear hm130
                                  refine c_reg ?_
                                  refine r_u (o_mv rfl) ?_
                                  refine rl_st (fun _ h => st_pk 5 [1, 0, 2, 3, 4] (by decide) h) ?_
                                  obtain rfl := Option.some.inj hm134
                                  try dsimp only at hm125
                                  obtain rfl := Option.some.inj hm125
                                  try dsimp only at hm102
                                  obtain rfl := Option.some.inj hm102
                                  try dsimp only at hm80
                                  obtain rfl := Option.some.inj hm80
                                  try dsimp only at hm54
                                  obtain rfl := Option.some.inj hm54
                                  try dsimp only at hm38
                                  obtain rfl := Option.some.inj hm38
                                  try dsimp only at hm30
                                  obtain rfl := Option.some.inj hm30
                                  exact r_sw (s_w (o_callR ca72 rfl (wire_Reader_Num.ok b0_ (⟨q17.2⟩ : wire_Reader) 18446744073709551615 (Sum.inr (rn132, ro133)) hr129) (by rintro _ _ _ ⟨rfl, rfl⟩; exact (px_st (fun _ h => st_pk 5 [0] (by decide) h) (px_of (Le.refl _) (.inr ⟨_, rfl, _, rfl, rfl, rfl⟩)))))) (fun _ _ _ _ h => h.elim)
                              · have hm128 := iff_ hp124 h127
                                clear hp124
                                refine c_seq ?_
                                refine c_reg ?_
                                refine r_u (o_bin rfl rfl (bI_eq q17.1.Kind 9)) ?_
                                refine r_u (o_as rfl) ?_
                                refine r_nil ?_
                                refine x_seq ?_
                                obtain ⟨p135, hp140, hm141⟩ := bs hm128
                                refine cd_cut (fun x ks => ∀ (q136 : api_Say × Str), ∀ (_ : p135 = Sum.inl q136), ∀ (g137 : api_Say.G), EX x .normal ks [(2, pt b0 0), (3, pt b9 0)] R (Bk b9 37 [vI q136.1.Kind, vW q136.1.View.V, vI q136.1.View.Primary, vW q136.1.View.PLife, vI q136.1.View.Backup, vW q136.1.View.BLife, vW q136.1.View.Epoch, vW q136.1.Value.V, vI q136.1.Value.Primary, vW q136.1.Value.PLife, vI q136.1.Value.Backup, vW q136.1.Value.BLife, vW q136.1.Value.Epoch, vW q136.1.Ballot, vB q136.1.Promise.OK, vW q136.1.Promise.V, vW q136.1.Promise.Most, vW q136.1.Promise.Ballot, vW q136.1.Promise.Value.V, vI q136.1.Promise.Value.Primary, vW q136.1.Promise.Value.PLife, vI q136.1.Promise.Value.Backup, vW q136.1.Promise.Value.BLife, vW q136.1.Promise.Value.Epoch, vW q136.1.Promise.Chosen.V, vI q136.1.Promise.Chosen.Primary, vW q136.1.Promise.Chosen.PLife, vI q136.1.Promise.Chosen.Backup, vW q136.1.Promise.Chosen.BLife, vW q136.1.Promise.Chosen.Epoch, vW q136.1.Seq, vW q136.1.Done, vW q136.1.Life, g137.Records, vI q136.1.Piece.N, vI q136.1.Piece.Of, vS q136.1.Piece.Data, vS q136.1.Piece.Sum, vS q136.1.Piece.Whole, vS q136.1.Digest, g137.Sums, vW q136.1.Session, vW q136.1.Num, vI q136.1.Op.Kind, vS q136.1.Op.Key, vS q136.1.Op.Value, vW q136.1.Op.TTL, vW q136.1.Op.Version, vI q136.1.Reply.E, vS q136.1.Reply.Value, vW q136.1.Reply.Version] :: Bk b0_ 114 [vS q136.2] :: Bk b0 37 [vI 0, vW 0, vI 0, vW 0, vI 0, vW 0, vW 0, vW 0, vI 0, vW 0, vI 0, vW 0, vW 0, vW 0, vB false, vW 0, vW 0, vW 0, vW 0, vI 0, vW 0, vI 0, vW 0, vW 0, vW 0, vI 0, vW 0, vI 0, vW 0, vW 0, vW 0, vW 0, vW 0, .slice none 0 0, vI 0, vI 0, vS [], vS [], vS [], vS [], .slice none 0 0, vW 0, vW 0, vI 0, vS [], vS [], vW 0, vW 0, vI 0, vS [], vW 0] :: OwS true 89 9 api_Record.c g137.Records q136.1.Records :: OwS true 9 1 eS g137.Sums q136.1.Sums :: F)) ?_ fun K142 => ?_
                                · intro q136 hq g137
                                  subst hq
                                  try dsimp only at hm141
                                  obtain rfl := Option.some.inj hm141
                                  exact x_sub (K126 _ rfl g137) ⟨rfl, rfl, trivial⟩ (fun _ h => st_pk 5 [0, 1, 2, 3, 4] (by decide) h)
                                · refine c_if (b := (q17.1.Kind == 9)) rfl (fun h143 => ?_) fun h143 => ?_
                                  · have hm144 := ift hp140 h143
                                    clear hp140
                                    obtain ⟨r145, hr145, hm146⟩ := bs hm144
                                    clear hm144
                                    rcases r145 with ra147 | ⟨rn148, ro149⟩
                                    · have hm150 := sm_l hm146
                                      clear hm146
                                      refine c_reg ?_
                                      refine r_u (o_mv rfl) ?_
                                      refine rl_st (fun _ h => st_pk 5 [1, 0, 2, 3, 4] (by decide) h) ?_
                                      refine r_c (s_w (o_callL ca72 rfl (wire_Reader_Num.ok b0_ (⟨q17.2⟩ : wire_Reader) 18446744073709551615 (Sum.inl ra147) hr145) (fun _ _ _ h => h))) ?_
                                      refine r_u (o_fa fa37_7 rfl) ?_
                                      refine rl_st (fun _ h => st_pk 5 [1, 0, 2, 3, 4] (by decide) h) ?_
                                      refine r_u0 (o_st sc22 rfl rfl rfl rfl rfl rfl) ?_
                                      refine r_nil ?_
                                      obtain rfl := Option.some.inj hm150
                                      exact x_sub (K142 _ rfl g18) ⟨rfl, rfl, trivial⟩ (fun _ h => st_pk 5 [0, 1, 2, 3, 4] (by decide) h)
                                    · have hm150 := sm_r hm146
                                      clear hm146
                                      refine c_reg ?_
                                      refine r_u (o_mv rfl) ?_
                                      refine rl_st (fun _ h => st_pk 5 [1, 0, 2, 3, 4] (by decide) h) ?_
                                      obtain rfl := Option.some.inj hm150
                                      try dsimp only at hm141
                                      obtain rfl := Option.some.inj hm141
                                      try dsimp only at hm125
                                      obtain rfl := Option.some.inj hm125
                                      try dsimp only at hm102
                                      obtain rfl := Option.some.inj hm102
                                      try dsimp only at hm80
                                      obtain rfl := Option.some.inj hm80
                                      try dsimp only at hm54
                                      obtain rfl := Option.some.inj hm54
                                      try dsimp only at hm38
                                      obtain rfl := Option.some.inj hm38
                                      try dsimp only at hm30
                                      obtain rfl := Option.some.inj hm30
                                      exact r_sw (s_w (o_callR ca72 rfl (wire_Reader_Num.ok b0_ (⟨q17.2⟩ : wire_Reader) 18446744073709551615 (Sum.inr (rn148, ro149)) hr145) (by rintro _ _ _ ⟨rfl, rfl⟩; exact (px_st (fun _ h => st_pk 5 [0] (by decide) h) (px_of (Le.refl _) (.inr ⟨_, rfl, _, rfl, rfl, rfl⟩)))))) (fun _ _ _ _ h => h.elim)
                                  · have hm144 := iff_ hp140 h143
                                    clear hp140
                                    refine c_seq ?_
                                    refine c_reg ?_
                                    refine r_u (o_bin rfl rfl (bI_eq q17.1.Kind 10)) ?_
                                    refine r_u (o_as rfl) ?_
                                    refine r_nil ?_
                                    refine x_seq ?_
                                    obtain ⟨p151, hp156, hm157⟩ := bs hm144
                                    refine cd_cut (fun x ks => ∀ (q152 : api_Say × Str), ∀ (_ : p151 = Sum.inl q152), ∀ (g153 : api_Say.G), EX x .normal ks [(2, pt b0 0), (3, pt b9 0)] R (Bk b9 37 [vI q152.1.Kind, vW q152.1.View.V, vI q152.1.View.Primary, vW q152.1.View.PLife, vI q152.1.View.Backup, vW q152.1.View.BLife, vW q152.1.View.Epoch, vW q152.1.Value.V, vI q152.1.Value.Primary, vW q152.1.Value.PLife, vI q152.1.Value.Backup, vW q152.1.Value.BLife, vW q152.1.Value.Epoch, vW q152.1.Ballot, vB q152.1.Promise.OK, vW q152.1.Promise.V, vW q152.1.Promise.Most, vW q152.1.Promise.Ballot, vW q152.1.Promise.Value.V, vI q152.1.Promise.Value.Primary, vW q152.1.Promise.Value.PLife, vI q152.1.Promise.Value.Backup, vW q152.1.Promise.Value.BLife, vW q152.1.Promise.Value.Epoch, vW q152.1.Promise.Chosen.V, vI q152.1.Promise.Chosen.Primary, vW q152.1.Promise.Chosen.PLife, vI q152.1.Promise.Chosen.Backup, vW q152.1.Promise.Chosen.BLife, vW q152.1.Promise.Chosen.Epoch, vW q152.1.Seq, vW q152.1.Done, vW q152.1.Life, g153.Records, vI q152.1.Piece.N, vI q152.1.Piece.Of, vS q152.1.Piece.Data, vS q152.1.Piece.Sum, vS q152.1.Piece.Whole, vS q152.1.Digest, g153.Sums, vW q152.1.Session, vW q152.1.Num, vI q152.1.Op.Kind, vS q152.1.Op.Key, vS q152.1.Op.Value, vW q152.1.Op.TTL, vW q152.1.Op.Version, vI q152.1.Reply.E, vS q152.1.Reply.Value, vW q152.1.Reply.Version] :: Bk b0_ 114 [vS q152.2] :: Bk b0 37 [vI 0, vW 0, vI 0, vW 0, vI 0, vW 0, vW 0, vW 0, vI 0, vW 0, vI 0, vW 0, vW 0, vW 0, vB false, vW 0, vW 0, vW 0, vW 0, vI 0, vW 0, vI 0, vW 0, vW 0, vW 0, vI 0, vW 0, vI 0, vW 0, vW 0, vW 0, vW 0, vW 0, .slice none 0 0, vI 0, vI 0, vS [], vS [], vS [], vS [], .slice none 0 0, vW 0, vW 0, vI 0, vS [], vS [], vW 0, vW 0, vI 0, vS [], vW 0] :: OwS true 89 9 api_Record.c g153.Records q152.1.Records :: OwS true 9 1 eS g153.Sums q152.1.Sums :: F)) ?_ fun K158 => ?_
                                    · intro q152 hq g153
                                      subst hq
                                      try dsimp only at hm157
                                      obtain rfl := Option.some.inj hm157
                                      exact x_sub (K142 _ rfl g153) ⟨rfl, rfl, trivial⟩ (fun _ h => st_pk 5 [0, 1, 2, 3, 4] (by decide) h)
                                    · refine c_if (b := (q17.1.Kind == 10)) rfl (fun h159 => ?_) fun h159 => ?_
                                      · have hm160 := ift hp156 h159
                                        clear hp156
                                        obtain ⟨r161, hr161, hm162⟩ := bs hm160
                                        clear hm160
                                        rcases r161 with ra163 | ⟨rn164, ro165⟩
                                        · have hm166 := sm_l hm162
                                          clear hm162
                                          obtain ⟨r167, hr167, hm168⟩ := bs hm166
                                          clear hm166
                                          rcases r167 with ra169 | ⟨rn170, ro171⟩
                                          · have hm172 := sm_l hm168
                                            clear hm168
                                            obtain ⟨r173, hr173, hm174⟩ := bs hm172
                                            clear hm172
                                            rcases r173 with ra175 | ⟨rn176, ro177⟩
                                            · have hm178 := sm_l hm174
                                              clear hm174
                                              refine c_reg ?_
                                              refine r_u (o_mv rfl) ?_
                                              refine rl_st (fun _ h => st_pk 5 [1, 0, 2, 3, 4] (by decide) h) ?_
                                              refine r_c (s_w (o_callL ca72 rfl (wire_Reader_Num.ok b0_ (⟨q17.2⟩ : wire_Reader) 18446744073709551615 (Sum.inl ra163) hr161) (fun _ _ _ h => h))) ?_
                                              refine r_u (o_mv rfl) ?_
                                              refine r_c (s_w (o_callL ca72 rfl (wire_Reader_Num.ok b0_ ra163.2 18446744073709551615 (Sum.inl ra169) hr167) (fun _ _ _ h => h))) ?_
                                              refine r_u (o_mv rfl) ?_
                                              refine r_c (s_w (o_callL ca77 rfl (say_takePiece.ok b0_ ra169.2 (Sum.inl ra175) hr173) (fun _ _ _ h => h))) ?_
                                              refine r_u (o_fa fa37_7 rfl) ?_
                                              refine rl_st (fun _ h => st_pk 5 [1, 0, 2, 3, 4] (by decide) h) ?_
                                              refine r_u0 (o_st sc22 rfl rfl rfl rfl rfl rfl) ?_
                                              refine r_u (o_fa fa37_5 rfl) ?_
                                              refine r_u0 (o_st sc22 rfl rfl rfl rfl rfl rfl) ?_
                                              refine r_u (o_fa fa37_9 rfl) ?_
                                              refine r_u0 (o_stn ag29 rfl rfl rfl rfl rfl rfl rfl) ?_
                                              refine r_nil ?_
                                              obtain rfl := Option.some.inj hm178
                                              exact x_sub (K158 _ rfl g18) ⟨rfl, rfl, trivial⟩ (fun _ h => st_pk 5 [0, 1, 2, 3, 4] (by decide) h)
                                            · have hm178 := sm_r hm174
                                              clear hm174
                                              refine c_reg ?_
                                              refine r_u (o_mv rfl) ?_
                                              refine rl_st (fun _ h => st_pk 5 [1, 0, 2, 3, 4] (by decide) h) ?_
                                              refine r_c (s_w (o_callL ca72 rfl (wire_Reader_Num.ok b0_ (⟨q17.2⟩ : wire_Reader) 18446744073709551615 (Sum.inl ra163) hr161) (fun _ _ _ h => h))) ?_
                                              refine r_u (o_mv rfl) ?_
                                              refine r_c (s_w (o_callL ca72 rfl (wire_Reader_Num.ok b0_ ra163.2 18446744073709551615 (Sum.inl ra169) hr167) (fun _ _ _ h => h))) ?_
                                              refine r_u (o_mv rfl) ?_
                                              obtain rfl := Option.some.inj hm178
                                              try dsimp only at hm157
                                              obtain rfl := Option.some.inj hm157
                                              try dsimp only at hm141
                                              obtain rfl := Option.some.inj hm141
                                              try dsimp only at hm125
                                              obtain rfl := Option.some.inj hm125
                                              try dsimp only at hm102
                                              obtain rfl := Option.some.inj hm102
                                              try dsimp only at hm80
                                              obtain rfl := Option.some.inj hm80
                                              try dsimp only at hm54
                                              obtain rfl := Option.some.inj hm54
                                              try dsimp only at hm38
                                              obtain rfl := Option.some.inj hm38
                                              try dsimp only at hm30
                                              obtain rfl := Option.some.inj hm30
                                              exact r_sw (s_w (o_callR ca77 rfl (say_takePiece.ok b0_ ra169.2 (Sum.inr (rn176, ro177)) hr173) (by rintro _ _ _ ⟨rfl, rfl⟩; exact (px_st (fun _ h => st_pk 5 [0] (by decide) h) (px_of (Le.refl _) (.inr ⟨_, rfl, _, rfl, rfl, rfl⟩)))))) (fun _ _ _ _ h => h.elim)
                                          · have hm172 := sm_r hm168
                                            clear hm168
                                            refine c_reg ?_
                                            refine r_u (o_mv rfl) ?_
                                            refine rl_st (fun _ h => st_pk 5 [1, 0, 2, 3, 4] (by decide) h) ?_
                                            refine r_c (s_w (o_callL ca72 rfl (wire_Reader_Num.ok b0_ (⟨q17.2⟩ : wire_Reader) 18446744073709551615 (Sum.inl ra163) hr161) (fun _ _ _ h => h))) ?_
                                            refine r_u (o_mv rfl) ?_
                                            obtain rfl := Option.some.inj hm172
                                            try dsimp only at hm157
                                            obtain rfl := Option.some.inj hm157
                                            try dsimp only at hm141
                                            obtain rfl := Option.some.inj hm141
                                            try dsimp only at hm125
                                            obtain rfl := Option.some.inj hm125
                                            try dsimp only at hm102
                                            obtain rfl := Option.some.inj hm102
                                            try dsimp only at hm80
                                            obtain rfl := Option.some.inj hm80
                                            try dsimp only at hm54
                                            obtain rfl := Option.some.inj hm54
                                            try dsimp only at hm38
                                            obtain rfl := Option.some.inj hm38
                                            try dsimp only at hm30
                                            obtain rfl := Option.some.inj hm30
                                            exact r_sw (s_w (o_callR ca72 rfl (wire_Reader_Num.ok b0_ ra163.2 18446744073709551615 (Sum.inr (rn170, ro171)) hr167) (by rintro _ _ _ ⟨rfl, rfl⟩; exact (px_st (fun _ h => st_pk 5 [0] (by decide) h) (px_of (Le.refl _) (.inr ⟨_, rfl, _, rfl, rfl, rfl⟩)))))) (fun _ _ _ _ h => h.elim)
                                        · have hm166 := sm_r hm162
                                          clear hm162
                                          refine c_reg ?_
                                          refine r_u (o_mv rfl) ?_
                                          refine rl_st (fun _ h => st_pk 5 [1, 0, 2, 3, 4] (by decide) h) ?_
                                          obtain rfl := Option.some.inj hm166
                                          try dsimp only at hm157
                                          obtain rfl := Option.some.inj hm157
                                          try dsimp only at hm141
                                          obtain rfl := Option.some.inj hm141
                                          try dsimp only at hm125
                                          obtain rfl := Option.some.inj hm125
                                          try dsimp only at hm102
                                          obtain rfl := Option.some.inj hm102
                                          try dsimp only at hm80
                                          obtain rfl := Option.some.inj hm80
                                          try dsimp only at hm54
                                          obtain rfl := Option.some.inj hm54
                                          try dsimp only at hm38
                                          obtain rfl := Option.some.inj hm38
                                          try dsimp only at hm30
                                          obtain rfl := Option.some.inj hm30
                                          exact r_sw (s_w (o_callR ca72 rfl (wire_Reader_Num.ok b0_ (⟨q17.2⟩ : wire_Reader) 18446744073709551615 (Sum.inr (rn164, ro165)) hr161) (by rintro _ _ _ ⟨rfl, rfl⟩; exact (px_st (fun _ h => st_pk 5 [0] (by decide) h) (px_of (Le.refl _) (.inr ⟨_, rfl, _, rfl, rfl, rfl⟩)))))) (fun _ _ _ _ h => h.elim)
                                      · have hm160 := iff_ hp156 h159
                                        clear hp156
                                        refine c_seq ?_
                                        refine c_reg ?_
                                        refine r_u (o_bin rfl rfl (bI_eq q17.1.Kind 11)) ?_
                                        refine r_u (o_as rfl) ?_
                                        refine r_nil ?_
                                        refine x_seq ?_
                                        obtain ⟨p179, hp184, hm185⟩ := bs hm160
                                        refine cd_cut (fun x ks => ∀ (q180 : api_Say × Str), ∀ (_ : p179 = Sum.inl q180), ∀ (g181 : api_Say.G), EX x .normal ks [(2, pt b0 0), (3, pt b9 0)] R (Bk b9 37 [vI q180.1.Kind, vW q180.1.View.V, vI q180.1.View.Primary, vW q180.1.View.PLife, vI q180.1.View.Backup, vW q180.1.View.BLife, vW q180.1.View.Epoch, vW q180.1.Value.V, vI q180.1.Value.Primary, vW q180.1.Value.PLife, vI q180.1.Value.Backup, vW q180.1.Value.BLife, vW q180.1.Value.Epoch, vW q180.1.Ballot, vB q180.1.Promise.OK, vW q180.1.Promise.V, vW q180.1.Promise.Most, vW q180.1.Promise.Ballot, vW q180.1.Promise.Value.V, vI q180.1.Promise.Value.Primary, vW q180.1.Promise.Value.PLife, vI q180.1.Promise.Value.Backup, vW q180.1.Promise.Value.BLife, vW q180.1.Promise.Value.Epoch, vW q180.1.Promise.Chosen.V, vI q180.1.Promise.Chosen.Primary, vW q180.1.Promise.Chosen.PLife, vI q180.1.Promise.Chosen.Backup, vW q180.1.Promise.Chosen.BLife, vW q180.1.Promise.Chosen.Epoch, vW q180.1.Seq, vW q180.1.Done, vW q180.1.Life, g181.Records, vI q180.1.Piece.N, vI q180.1.Piece.Of, vS q180.1.Piece.Data, vS q180.1.Piece.Sum, vS q180.1.Piece.Whole, vS q180.1.Digest, g181.Sums, vW q180.1.Session, vW q180.1.Num, vI q180.1.Op.Kind, vS q180.1.Op.Key, vS q180.1.Op.Value, vW q180.1.Op.TTL, vW q180.1.Op.Version, vI q180.1.Reply.E, vS q180.1.Reply.Value, vW q180.1.Reply.Version] :: Bk b0_ 114 [vS q180.2] :: Bk b0 37 [vI 0, vW 0, vI 0, vW 0, vI 0, vW 0, vW 0, vW 0, vI 0, vW 0, vI 0, vW 0, vW 0, vW 0, vB false, vW 0, vW 0, vW 0, vW 0, vI 0, vW 0, vI 0, vW 0, vW 0, vW 0, vI 0, vW 0, vI 0, vW 0, vW 0, vW 0, vW 0, vW 0, .slice none 0 0, vI 0, vI 0, vS [], vS [], vS [], vS [], .slice none 0 0, vW 0, vW 0, vI 0, vS [], vS [], vW 0, vW 0, vI 0, vS [], vW 0] :: OwS true 89 9 api_Record.c g181.Records q180.1.Records :: OwS true 9 1 eS g181.Sums q180.1.Sums :: F)) ?_ fun K186 => ?_
                                        · intro q180 hq g181
                                          subst hq
                                          try dsimp only at hm185
                                          obtain rfl := Option.some.inj hm185
                                          exact x_sub (K158 _ rfl g181) ⟨rfl, rfl, trivial⟩ (fun _ h => st_pk 5 [0, 1, 2, 3, 4] (by decide) h)
                                        · refine c_if (b := (q17.1.Kind == 11)) rfl (fun h187 => ?_) fun h187 => ?_
                                          · have hm188 := ift hp184 h187
                                            clear hp184
                                            obtain ⟨r189, hr189, hm190⟩ := bs hm188
                                            clear hm188
                                            rcases r189 with ra191 | ⟨rn192, ro193⟩
                                            · have hm194 := sm_l hm190
                                              clear hm190
                                              obtain ⟨r195, hr195, hm196⟩ := bs hm194
                                              clear hm194
                                              rcases r195 with ra197 | ⟨rn198, ro199⟩
                                              · have hm200 := sm_l hm196
                                                clear hm196
                                                obtain ⟨r201, hr201, hm202⟩ := bs hm200
                                                clear hm200
                                                rcases r201 with ra203 | ⟨rn204, ro205⟩
                                                · have hm206 := sm_l hm202
                                                  clear hm202
                                                  refine c_reg ?_
                                                  refine r_u (o_mv rfl) ?_
                                                  refine rl_st (fun _ h => st_pk 5 [1, 0, 2, 3, 4] (by decide) h) ?_
                                                  refine r_c (s_w (o_callL ca72 rfl (wire_Reader_Num.ok b0_ (⟨q17.2⟩ : wire_Reader) 18446744073709551615 (Sum.inl ra191) hr189) (fun _ _ _ h => h))) ?_
                                                  refine r_u (o_mv rfl) ?_
                                                  refine r_c (s_w (o_callL ca72 rfl (wire_Reader_Num.ok b0_ ra191.2 18446744073709551615 (Sum.inl ra197) hr195) (fun _ _ _ h => h))) ?_
                                                  refine r_u (o_mv rfl) ?_
                                                  refine r_c (s_w (o_callL ca72 rfl (wire_Reader_Num.ok b0_ ra197.2 8192 (Sum.inl ra203) hr201) (fun _ _ _ h => h))) ?_
                                                  obtain ⟨n207, hn207, hm208⟩ := ltx hm206
                                                  clear hm206
                                                  refine r_u (o_cv rfl (cvI (cWI Try.underlying22 Try.underlying3 ra203.1) hn207)) ?_
                                                  refine r_u (o_fa fa37_7 rfl) ?_
                                                  refine rl_st (fun _ h => st_pk 5 [1, 0, 2, 3, 4] (by decide) h) ?_
                                                  refine r_u0 (o_st sc22 rfl rfl rfl rfl rfl rfl) ?_
                                                  refine r_u (o_fa fa37_5 rfl) ?_
                                                  refine r_u0 (o_st sc22 rfl rfl rfl rfl rfl rfl) ?_
                                                  refine r_u (o_fa fa37_9 rfl) ?_
                                                  refine r_u (o_fa fa29_0 rfl) ?_
                                                  refine r_u0 (o_st sc3 rfl rfl rfl rfl rfl rfl) ?_
                                                  refine r_nil ?_
                                                  obtain rfl := Option.some.inj hm208
                                                  exact x_sub (K186 _ rfl g18) ⟨rfl, rfl, trivial⟩ (fun _ h => st_pk 5 [0, 1, 2, 3, 4] (by decide) h)
                                                · have hm206 := sm_r hm202
                                                  clear hm202
                                                  refine c_reg ?_
                                                  refine r_u (o_mv rfl) ?_
                                                  refine rl_st (fun _ h => st_pk 5 [1, 0, 2, 3, 4] (by decide) h) ?_
                                                  refine r_c (s_w (o_callL ca72 rfl (wire_Reader_Num.ok b0_ (⟨q17.2⟩ : wire_Reader) 18446744073709551615 (Sum.inl ra191) hr189) (fun _ _ _ h => h))) ?_
                                                  refine r_u (o_mv rfl) ?_
                                                  refine r_c (s_w (o_callL ca72 rfl (wire_Reader_Num.ok b0_ ra191.2 18446744073709551615 (Sum.inl ra197) hr195) (fun _ _ _ h => h))) ?_
                                                  refine r_u (o_mv rfl) ?_
                                                  obtain rfl := Option.some.inj hm206
                                                  try dsimp only at hm185
                                                  obtain rfl := Option.some.inj hm185
                                                  try dsimp only at hm157
                                                  obtain rfl := Option.some.inj hm157
                                                  try dsimp only at hm141
                                                  obtain rfl := Option.some.inj hm141
                                                  try dsimp only at hm125
                                                  obtain rfl := Option.some.inj hm125
                                                  try dsimp only at hm102
                                                  obtain rfl := Option.some.inj hm102
                                                  try dsimp only at hm80
                                                  obtain rfl := Option.some.inj hm80
                                                  try dsimp only at hm54
                                                  obtain rfl := Option.some.inj hm54
                                                  try dsimp only at hm38
                                                  obtain rfl := Option.some.inj hm38
                                                  try dsimp only at hm30
                                                  obtain rfl := Option.some.inj hm30
                                                  exact r_sw (s_w (o_callR ca72 rfl (wire_Reader_Num.ok b0_ ra197.2 8192 (Sum.inr (rn204, ro205)) hr201) (by rintro _ _ _ ⟨rfl, rfl⟩; exact (px_st (fun _ h => st_pk 5 [0] (by decide) h) (px_of (Le.refl _) (.inr ⟨_, rfl, _, rfl, rfl, rfl⟩)))))) (fun _ _ _ _ h => h.elim)
                                              · have hm200 := sm_r hm196
                                                clear hm196
                                                refine c_reg ?_
                                                refine r_u (o_mv rfl) ?_
                                                refine rl_st (fun _ h => st_pk 5 [1, 0, 2, 3, 4] (by decide) h) ?_
                                                refine r_c (s_w (o_callL ca72 rfl (wire_Reader_Num.ok b0_ (⟨q17.2⟩ : wire_Reader) 18446744073709551615 (Sum.inl ra191) hr189) (fun _ _ _ h => h))) ?_
                                                refine r_u (o_mv rfl) ?_
                                                obtain rfl := Option.some.inj hm200
                                                try dsimp only at hm185
                                                obtain rfl := Option.some.inj hm185
                                                try dsimp only at hm157
                                                obtain rfl := Option.some.inj hm157
                                                try dsimp only at hm141
                                                obtain rfl := Option.some.inj hm141
                                                try dsimp only at hm125
                                                obtain rfl := Option.some.inj hm125
                                                try dsimp only at hm102
                                                obtain rfl := Option.some.inj hm102
                                                try dsimp only at hm80
                                                obtain rfl := Option.some.inj hm80
                                                try dsimp only at hm54
                                                obtain rfl := Option.some.inj hm54
                                                try dsimp only at hm38
                                                obtain rfl := Option.some.inj hm38
                                                try dsimp only at hm30
                                                obtain rfl := Option.some.inj hm30
                                                exact r_sw (s_w (o_callR ca72 rfl (wire_Reader_Num.ok b0_ ra191.2 18446744073709551615 (Sum.inr (rn198, ro199)) hr195) (by rintro _ _ _ ⟨rfl, rfl⟩; exact (px_st (fun _ h => st_pk 5 [0] (by decide) h) (px_of (Le.refl _) (.inr ⟨_, rfl, _, rfl, rfl, rfl⟩)))))) (fun _ _ _ _ h => h.elim)
                                            · have hm194 := sm_r hm190
                                              clear hm190
                                              refine c_reg ?_
                                              refine r_u (o_mv rfl) ?_
                                              refine rl_st (fun _ h => st_pk 5 [1, 0, 2, 3, 4] (by decide) h) ?_
                                              obtain rfl := Option.some.inj hm194
                                              try dsimp only at hm185
                                              obtain rfl := Option.some.inj hm185
                                              try dsimp only at hm157
                                              obtain rfl := Option.some.inj hm157
                                              try dsimp only at hm141
                                              obtain rfl := Option.some.inj hm141
                                              try dsimp only at hm125
                                              obtain rfl := Option.some.inj hm125
                                              try dsimp only at hm102
                                              obtain rfl := Option.some.inj hm102
                                              try dsimp only at hm80
                                              obtain rfl := Option.some.inj hm80
                                              try dsimp only at hm54
                                              obtain rfl := Option.some.inj hm54
                                              try dsimp only at hm38
                                              obtain rfl := Option.some.inj hm38
                                              try dsimp only at hm30
                                              obtain rfl := Option.some.inj hm30
                                              exact r_sw (s_w (o_callR ca72 rfl (wire_Reader_Num.ok b0_ (⟨q17.2⟩ : wire_Reader) 18446744073709551615 (Sum.inr (rn192, ro193)) hr189) (by rintro _ _ _ ⟨rfl, rfl⟩; exact (px_st (fun _ h => st_pk 5 [0] (by decide) h) (px_of (Le.refl _) (.inr ⟨_, rfl, _, rfl, rfl, rfl⟩)))))) (fun _ _ _ _ h => h.elim)
                                          · have hm188 := iff_ hp184 h187
                                            clear hp184
                                            refine c_seq ?_
                                            refine c_reg ?_
                                            refine r_u (o_bin rfl rfl (bI_eq q17.1.Kind 12)) ?_
                                            refine r_u (o_as rfl) ?_
                                            refine r_nil ?_
                                            refine x_seq ?_
                                            obtain ⟨p209, hp214, hm215⟩ := bs hm188
                                            refine cd_cut (fun x ks => ∀ (q210 : api_Say × Str), ∀ (_ : p209 = Sum.inl q210), ∀ (g211 : api_Say.G), EX x .normal ks [(2, pt b0 0), (3, pt b9 0)] R (Bk b9 37 [vI q210.1.Kind, vW q210.1.View.V, vI q210.1.View.Primary, vW q210.1.View.PLife, vI q210.1.View.Backup, vW q210.1.View.BLife, vW q210.1.View.Epoch, vW q210.1.Value.V, vI q210.1.Value.Primary, vW q210.1.Value.PLife, vI q210.1.Value.Backup, vW q210.1.Value.BLife, vW q210.1.Value.Epoch, vW q210.1.Ballot, vB q210.1.Promise.OK, vW q210.1.Promise.V, vW q210.1.Promise.Most, vW q210.1.Promise.Ballot, vW q210.1.Promise.Value.V, vI q210.1.Promise.Value.Primary, vW q210.1.Promise.Value.PLife, vI q210.1.Promise.Value.Backup, vW q210.1.Promise.Value.BLife, vW q210.1.Promise.Value.Epoch, vW q210.1.Promise.Chosen.V, vI q210.1.Promise.Chosen.Primary, vW q210.1.Promise.Chosen.PLife, vI q210.1.Promise.Chosen.Backup, vW q210.1.Promise.Chosen.BLife, vW q210.1.Promise.Chosen.Epoch, vW q210.1.Seq, vW q210.1.Done, vW q210.1.Life, g211.Records, vI q210.1.Piece.N, vI q210.1.Piece.Of, vS q210.1.Piece.Data, vS q210.1.Piece.Sum, vS q210.1.Piece.Whole, vS q210.1.Digest, g211.Sums, vW q210.1.Session, vW q210.1.Num, vI q210.1.Op.Kind, vS q210.1.Op.Key, vS q210.1.Op.Value, vW q210.1.Op.TTL, vW q210.1.Op.Version, vI q210.1.Reply.E, vS q210.1.Reply.Value, vW q210.1.Reply.Version] :: Bk b0_ 114 [vS q210.2] :: Bk b0 37 [vI 0, vW 0, vI 0, vW 0, vI 0, vW 0, vW 0, vW 0, vI 0, vW 0, vI 0, vW 0, vW 0, vW 0, vB false, vW 0, vW 0, vW 0, vW 0, vI 0, vW 0, vI 0, vW 0, vW 0, vW 0, vI 0, vW 0, vI 0, vW 0, vW 0, vW 0, vW 0, vW 0, .slice none 0 0, vI 0, vI 0, vS [], vS [], vS [], vS [], .slice none 0 0, vW 0, vW 0, vI 0, vS [], vS [], vW 0, vW 0, vI 0, vS [], vW 0] :: OwS true 89 9 api_Record.c g211.Records q210.1.Records :: OwS true 9 1 eS g211.Sums q210.1.Sums :: F)) ?_ fun K216 => ?_
                                            · intro q210 hq g211
                                              subst hq
                                              try dsimp only at hm215
                                              obtain rfl := Option.some.inj hm215
                                              exact x_sub (K186 _ rfl g211) ⟨rfl, rfl, trivial⟩ (fun _ h => st_pk 5 [0, 1, 2, 3, 4] (by decide) h)
                                            · refine c_if (b := (q17.1.Kind == 12)) rfl (fun h217 => ?_) fun h217 => ?_
                                              · have hm218 := ift hp214 h217
                                                clear hp214
                                                refine c_seq ?_
                                                obtain ⟨r219, hr219, hm220⟩ := bs hm218
                                                clear hm218
                                                rcases r219 with ra221 | ⟨rn222, ro223⟩
                                                · have hm224 := sm_l hm220
                                                  clear hm220
                                                  obtain ⟨r225, hr225, hm226⟩ := bs hm224
                                                  clear hm224
                                                  rcases r225 with ra227 | ⟨rn228, ro229⟩
                                                  · have hm230 := sm_l hm226
                                                    clear hm226
                                                    obtain ⟨r231, hr231, hm232⟩ := bs hm230
                                                    clear hm230
                                                    rcases r231 with ra233 | ⟨rn234, ro235⟩
                                                    · have hm236 := sm_l hm232
                                                      clear hm232
                                                      refine c_reg ?_
                                                      refine r_u (o_mv rfl) ?_
                                                      refine rl_st (fun _ h => st_pk 5 [1, 0, 2, 3, 4] (by decide) h) ?_
                                                      refine r_c (s_w (o_callL ca72 rfl (wire_Reader_Num.ok b0_ (⟨q17.2⟩ : wire_Reader) 18446744073709551615 (Sum.inl ra221) hr219) (fun _ _ _ h => h))) ?_
                                                      refine r_u (o_mv rfl) ?_
                                                      refine r_c (s_w (o_callL ca72 rfl (wire_Reader_Num.ok b0_ ra221.2 18446744073709551615 (Sum.inl ra227) hr225) (fun _ _ _ h => h))) ?_
                                                      refine r_u (o_mv rfl) ?_
                                                      refine r_c (s_w (o_callL ca78 rfl (wire_Reader_Bytes.ok b0_ ra227.2 32 (Sum.inl ra233) hr231) (fun _ _ _ h => h))) ?_
                                                      refine r_u (o_fa fa37_7 rfl) ?_
                                                      refine rl_st (fun _ h => st_pk 5 [1, 0, 2, 3, 4] (by decide) h) ?_
                                                      refine r_u0 (o_st sc22 rfl rfl rfl rfl rfl rfl) ?_
                                                      refine r_u (o_fa fa37_5 rfl) ?_
                                                      refine r_u0 (o_st sc22 rfl rfl rfl rfl rfl rfl) ?_
                                                      refine r_u (o_fa fa37_10 rfl) ?_
                                                      refine r_u0 (o_st sc9 rfl rfl rfl rfl rfl rfl) ?_
                                                      refine r_nil ?_
                                                      refine x_seq ?_
                                                      refine c_seq ?_
                                                      refine c_reg ?_
                                                      refine r_u (o_mv rfl) ?_
                                                      refine r_nil ?_
                                                      refine x_seq ?_
                                                      obtain ⟨p237, hp240, hm241⟩ := bs hm236
                                                      refine cd_cut (fun x ks => ∀ (q238 : List Str × Str), ∀ (_ : p237 = Sum.inl q238), ∀ (g239 : Value), EX x .normal ks [(2, pt b0 0), (3, pt b9 0)] R (Bk b9 37 [vI q17.1.Kind, vW q17.1.View.V, vI q17.1.View.Primary, vW q17.1.View.PLife, vI q17.1.View.Backup, vW q17.1.View.BLife, vW q17.1.View.Epoch, vW q17.1.Value.V, vI q17.1.Value.Primary, vW q17.1.Value.PLife, vI q17.1.Value.Backup, vW q17.1.Value.BLife, vW q17.1.Value.Epoch, vW q17.1.Ballot, vB q17.1.Promise.OK, vW q17.1.Promise.V, vW q17.1.Promise.Most, vW q17.1.Promise.Ballot, vW q17.1.Promise.Value.V, vI q17.1.Promise.Value.Primary, vW q17.1.Promise.Value.PLife, vI q17.1.Promise.Value.Backup, vW q17.1.Promise.Value.BLife, vW q17.1.Promise.Value.Epoch, vW q17.1.Promise.Chosen.V, vI q17.1.Promise.Chosen.Primary, vW q17.1.Promise.Chosen.PLife, vI q17.1.Promise.Chosen.Backup, vW q17.1.Promise.Chosen.BLife, vW q17.1.Promise.Chosen.Epoch, vW ra227.1, vW q17.1.Done, vW ra221.1, g18.Records, vI q17.1.Piece.N, vI q17.1.Piece.Of, vS q17.1.Piece.Data, vS q17.1.Piece.Sum, vS q17.1.Piece.Whole, vS ra233.1, g239, vW q17.1.Session, vW q17.1.Num, vI q17.1.Op.Kind, vS q17.1.Op.Key, vS q17.1.Op.Value, vW q17.1.Op.TTL, vW q17.1.Op.Version, vI q17.1.Reply.E, vS q17.1.Reply.Value, vW q17.1.Reply.Version] :: Bk b0_ 114 [vS q238.2] :: Bk b0 37 [vI 0, vW 0, vI 0, vW 0, vI 0, vW 0, vW 0, vW 0, vI 0, vW 0, vI 0, vW 0, vW 0, vW 0, vB false, vW 0, vW 0, vW 0, vW 0, vI 0, vW 0, vI 0, vW 0, vW 0, vW 0, vI 0, vW 0, vI 0, vW 0, vW 0, vW 0, vW 0, vW 0, .slice none 0 0, vI 0, vI 0, vS [], vS [], vS [], vS [], .slice none 0 0, vW 0, vW 0, vI 0, vS [], vS [], vW 0, vW 0, vI 0, vS [], vW 0] :: OwS true 89 9 api_Record.c g18.Records q17.1.Records :: OwS true 9 1 eS g239 q238.1 :: F)) ?_ fun K242 => ?_
                                                      · intro q238 hq g239
                                                        subst hq
                                                        try dsimp only at hm241
                                                        obtain rfl := Option.some.inj hm241
                                                        exact x_sub (K216 _ rfl (⟨g18.Records, g239⟩ : api_Say.G)) ⟨rfl, rfl, trivial⟩ (fun _ h => st_pk 5 [0, 1, 2, 3, 4] (by decide) h)
                                                      · refine c_blk ?_
                                                        refine cd_loopG (M := fun k247 (s : Int × List Str × Str × Value) => say_take_l0 k247 s.1 s.2.1 s.2.2.1 = some p237) (Ef := fun (s : Int × List Str × Str × Value) => [(0, pt b0_ 0), (2, pt b0 0), (3, pt b9 0), (101, vI s.1)]) (Rf := fun (s : Int × List Str × Str × Value) => R) (Lf := fun (s : Int × List Str × Str × Value) => Bk b9 37 [vI q17.1.Kind, vW q17.1.View.V, vI q17.1.View.Primary, vW q17.1.View.PLife, vI q17.1.View.Backup, vW q17.1.View.BLife, vW q17.1.View.Epoch, vW q17.1.Value.V, vI q17.1.Value.Primary, vW q17.1.Value.PLife, vI q17.1.Value.Backup, vW q17.1.Value.BLife, vW q17.1.Value.Epoch, vW q17.1.Ballot, vB q17.1.Promise.OK, vW q17.1.Promise.V, vW q17.1.Promise.Most, vW q17.1.Promise.Ballot, vW q17.1.Promise.Value.V, vI q17.1.Promise.Value.Primary, vW q17.1.Promise.Value.PLife, vI q17.1.Promise.Value.Backup, vW q17.1.Promise.Value.BLife, vW q17.1.Promise.Value.Epoch, vW q17.1.Promise.Chosen.V, vI q17.1.Promise.Chosen.Primary, vW q17.1.Promise.Chosen.PLife, vI q17.1.Promise.Chosen.Backup, vW q17.1.Promise.Chosen.BLife, vW q17.1.Promise.Chosen.Epoch, vW ra227.1, vW q17.1.Done, vW ra221.1, g18.Records, vI q17.1.Piece.N, vI q17.1.Piece.Of, vS q17.1.Piece.Data, vS q17.1.Piece.Sum, vS q17.1.Piece.Whole, vS ra233.1, s.2.2.2, vW q17.1.Session, vW q17.1.Num, vI q17.1.Op.Kind, vS q17.1.Op.Key, vS q17.1.Op.Value, vW q17.1.Op.TTL, vW q17.1.Op.Version, vI q17.1.Reply.E, vS q17.1.Reply.Value, vW q17.1.Reply.Version] :: Bk b0_ 114 [vS s.2.2.1] :: Bk b0 37 [vI 0, vW 0, vI 0, vW 0, vI 0, vW 0, vW 0, vW 0, vI 0, vW 0, vI 0, vW 0, vW 0, vW 0, vB false, vW 0, vW 0, vW 0, vW 0, vI 0, vW 0, vI 0, vW 0, vW 0, vW 0, vI 0, vW 0, vI 0, vW 0, vW 0, vW 0, vW 0, vW 0, .slice none 0 0, vI 0, vI 0, vS [], vS [], vS [], vS [], .slice none 0 0, vW 0, vW 0, vI 0, vS [], vS [], vW 0, vW 0, vI 0, vS [], vW 0] :: OwS true 89 9 api_Record.c g18.Records q17.1.Records :: OwS true 9 1 eS s.2.2.2 s.2.1 :: F) 17 (0, q17.1.Sums, ra233.2.s, g18.Sums) hp240 ⟨rfl, rfl, rfl, rfl, trivial⟩ (fun _ h => st_pk 5 [0, 1, 2, 3, 4] (by decide) h) (fun _ h => by cases h) fun k247 s hM249 => ?_
                                                        obtain ⟨s_243, c_244, c_245, g246⟩ := s
                                                        have hm248 : say_take_l0 (k247 + 1) s_243 c_244 c_245 = some p237 := hM249
                                                        rw [say_take_l0] at hm248
                                                        refine c_seq ?_
                                                        refine c_reg ?_
                                                        refine r_u (o_bin rfl rfl (bI_lt s_243 16)) ?_
                                                        refine r_nil ?_
                                                        refine x_seq ?_
                                                        refine c_seq ?_
                                                        refine c_if (b := decide (s_243 < 16)) rfl (fun h250 => ?_) fun h250 => ?_
                                                        · have hm251 := ift hm248 h250
                                                          clear hm248
                                                          refine c_skip ?_
                                                          refine x_seq ?_
                                                          refine c_seq ?_
                                                          refine c_blk ?_
                                                          obtain ⟨r252, hr252, hm253⟩ := bs hm251
                                                          clear hm251
                                                          rcases r252 with ra254 | ⟨rn255, ro256⟩
                                                          · have hm257 := sm_l hm253
                                                            clear hm253
                                                            obtain ⟨l260, hl260, hm261⟩ := bs hm257
                                                            clear hm257
                                                            refine c_any mixed (effs := [3, 4, 5, 7]) (V := []) ?_
                                                            refine stage_st (fun _ h => st_pk 5 [1, 0, 2, 3, 4] (by decide) h) ?_
                                                            refine stage_ext [(0, pt b9 40), (1, g246), (2, pt b0_ 0)] rfl ?_
                                                            refine stage rfl rfl rfl rfl [0, 1, 0, 4, 12, 31, 63, 127] [0, 1, 2] [3] rfl rfl rfl (qc rfl rfl (s_u (o_fa fa37_11 rfl)) (qc rfl rfl (s_u (o_ld 1 sc30 rfl rfl rfl)) (qc rfl rfl (s_u (o_mv rfl)) qn))) ?_ (fun h => absurd h (by decide))
                                                            refine ec (eo_c rfl (s_w (o_callL ca78 rfl (wire_Reader_Bytes.ok b0_ (⟨c_245⟩ : wire_Reader) 32 (Sum.inl ra254) hr252) (fun _ _ _ h => h))) ?_) en
                                                            refine stage rfl rfl rfl rfl [0, 1, 0, 4, 12, 31, 63, 127] [0, 1] [4] rfl rfl rfl (qc rfl rfl (s_u (o_fa fa37_11 rfl)) (qc rfl rfl (s_u (o_ld 1 sc30 rfl rfl rfl)) qn)) ?_ (fun h => absurd h (by decide))
                                                            refine ec (eo_w rfl (s_w (o_bsl (en := eS) (sz := 1) (e := 9) (cs := [vS ra254.1]) (r := [ra254.1]) rfl (fun _ => by kernel_rfl) rfl (by decide) rfl (fun _ => rfl))) ?_) en
                                                            rintro v258 R _ _ ⟨rfl, rfl⟩
                                                            refine stage_st (fun _ h => st_pk 6 [5, 0, 1, 2, 3, 4] (by decide) h) ?_
                                                            refine stage rfl rfl rfl rfl [0, 1, 0, 4, 12, 31, 63, 127] [0, 1] [5] rfl rfl rfl (qc rfl rfl (s_u (o_fa fa37_11 rfl)) (qc rfl rfl (s_u (o_ld 3 sc30 rfl rfl rfl)) qn)) ?_ (fun h => absurd h (by decide))
                                                            refine ec (eo_w rfl (s_w (o_ap (sz := 1) (bytes := 16) 0 Try.underlying30 rfl rfl rfl rfl rfl (by decide) (by decide) (fun _ _ _ h => by simp at h; subst h; rfl) (fun _ => rfl) rfl rfl rfl rfl (Nat.succ_pos _) hl260)) ?_) en
                                                            rintro v259 R _ _ ⟨rfl, rfl⟩
                                                            refine stage_st (fun _ h => st_pk 6 [3, 0, 1, 2, 4, 5] (by decide) h) ?_
                                                            refine stage_ext [(6, pt b9 40)] rfl ?_
                                                            refine stage rfl rfl rfl rfl [0, 1, 0, 4, 12, 31, 63, 127] [6] [7] rfl rfl rfl (qc rfl rfl (s_u (o_fa fa37_11 rfl)) qn) ?_ (fun h => absurd h (by decide))
                                                            refine ec (eo_u rfl (s_u (ou_if (one_o 1 rfl) fun ho0 => o_st sc30 rfl rfl rfl ho0 rfl rfl)) (Le.refl _) ?_) en
                                                            refine stage rfl rfl rfl rfl [0, 1, 0, 4, 12, 31, 63, 127] [] [] rfl rfl rfl qn en ?_
                                                            intro _
                                                            refine ex_sub (E' := [(0, pt b0_ 0), (2, pt b0 0), (3, pt b9 0), (101, vI s_243)]) ⟨rfl, rfl, rfl, rfl, trivial⟩ ?_
                                                            refine x_blk ?_
                                                            refine x_seq ?_
                                                            refine c_reg ?_
                                                            refine r_u (o_bin rfl rfl (bI_add s_243 1)) ?_
                                                            refine r_u (o_mv rfl) ?_
                                                            refine r_nil ?_
                                                            exact x_lp (i64 (s_243 + 1), l260, ra254.2.s, v259) hm261 ⟨rfl, rfl, rfl, rfl, trivial⟩ (fun _ h => st_pk 6 [0, 3, 4, 5, 1] (by decide) h)
                                                          · have hm257 := sm_r hm253
                                                            clear hm253
                                                            refine c_any mixed (effs := [3]) (V := []) ?_
                                                            refine stage_st (fun _ h => st_pk 5 [1, 0, 2, 3, 4] (by decide) h) ?_
                                                            refine stage_ext [(0, pt b9 40), (1, g246), (2, pt b0_ 0)] rfl ?_
                                                            refine stage rfl rfl rfl rfl [0, 1, 0, 4, 12, 31, 63, 127] [0, 1, 2] [3] rfl rfl rfl (qc rfl rfl (s_u (o_fa fa37_11 rfl)) (qc rfl rfl (s_u (o_ld 1 sc30 rfl rfl rfl)) (qc rfl rfl (s_u (o_mv rfl)) qn))) ?_ (fun h => absurd h (by decide))
                                                            obtain rfl := Option.some.inj hm257
                                                            try dsimp only at hm241
                                                            obtain rfl := Option.some.inj hm241
                                                            try dsimp only at hm215
                                                            obtain rfl := Option.some.inj hm215
                                                            try dsimp only at hm185
                                                            obtain rfl := Option.some.inj hm185
                                                            try dsimp only at hm157
                                                            obtain rfl := Option.some.inj hm157
                                                            try dsimp only at hm141
                                                            obtain rfl := Option.some.inj hm141
                                                            try dsimp only at hm125
                                                            obtain rfl := Option.some.inj hm125
                                                            try dsimp only at hm102
                                                            obtain rfl := Option.some.inj hm102
                                                            try dsimp only at hm80
                                                            obtain rfl := Option.some.inj hm80
                                                            try dsimp only at hm54
                                                            obtain rfl := Option.some.inj hm54
                                                            try dsimp only at hm38
                                                            obtain rfl := Option.some.inj hm38
                                                            try dsimp only at hm30
                                                            obtain rfl := Option.some.inj hm30
                                                            exact ec (eo_w rfl (s_w (o_callR ca78 rfl (wire_Reader_Bytes.ok b0_ (⟨c_245⟩ : wire_Reader) 32 (Sum.inr (rn255, ro256)) hr252) (by rintro _ _ _ ⟨rfl, rfl⟩; exact (px_st (fun _ h => st_pk 5 [0] (by decide) h) (px_of (Le.refl _) (.inr ⟨_, rfl, _, rfl, rfl, rfl⟩)))))) (fun _ _ _ _ h => h.elim)) en
                                                        · have hm251 := iff_ hm248 h250
                                                          clear hm248
                                                          refine c_exit (x_exit (ks' := _) rfl ?_)
                                                          obtain rfl := Option.some.inj hm251
                                                          exact x_sub (K242 _ rfl g246) ⟨rfl, rfl, trivial⟩ (fun _ h => st_pk 5 [0, 1, 2, 3, 4] (by decide) h)
                                                    · have hm236 := sm_r hm232
                                                      clear hm232
                                                      refine c_reg ?_
                                                      refine r_u (o_mv rfl) ?_
                                                      refine rl_st (fun _ h => st_pk 5 [1, 0, 2, 3, 4] (by decide) h) ?_
                                                      refine r_c (s_w (o_callL ca72 rfl (wire_Reader_Num.ok b0_ (⟨q17.2⟩ : wire_Reader) 18446744073709551615 (Sum.inl ra221) hr219) (fun _ _ _ h => h))) ?_
                                                      refine r_u (o_mv rfl) ?_
                                                      refine r_c (s_w (o_callL ca72 rfl (wire_Reader_Num.ok b0_ ra221.2 18446744073709551615 (Sum.inl ra227) hr225) (fun _ _ _ h => h))) ?_
                                                      refine r_u (o_mv rfl) ?_
                                                      obtain rfl := Option.some.inj hm236
                                                      try dsimp only at hm215
                                                      obtain rfl := Option.some.inj hm215
                                                      try dsimp only at hm185
                                                      obtain rfl := Option.some.inj hm185
                                                      try dsimp only at hm157
                                                      obtain rfl := Option.some.inj hm157
                                                      try dsimp only at hm141
                                                      obtain rfl := Option.some.inj hm141
                                                      try dsimp only at hm125
                                                      obtain rfl := Option.some.inj hm125
                                                      try dsimp only at hm102
                                                      obtain rfl := Option.some.inj hm102
                                                      try dsimp only at hm80
                                                      obtain rfl := Option.some.inj hm80
                                                      try dsimp only at hm54
                                                      obtain rfl := Option.some.inj hm54
                                                      try dsimp only at hm38
                                                      obtain rfl := Option.some.inj hm38
                                                      try dsimp only at hm30
                                                      obtain rfl := Option.some.inj hm30
                                                      exact r_sw (s_w (o_callR ca78 rfl (wire_Reader_Bytes.ok b0_ ra227.2 32 (Sum.inr (rn234, ro235)) hr231) (by rintro _ _ _ ⟨rfl, rfl⟩; exact (px_st (fun _ h => st_pk 5 [0] (by decide) h) (px_of (Le.refl _) (.inr ⟨_, rfl, _, rfl, rfl, rfl⟩)))))) (fun _ _ _ _ h => h.elim)
                                                  · have hm230 := sm_r hm226
                                                    clear hm226
                                                    refine c_reg ?_
                                                    refine r_u (o_mv rfl) ?_
                                                    refine rl_st (fun _ h => st_pk 5 [1, 0, 2, 3, 4] (by decide) h) ?_
                                                    refine r_c (s_w (o_callL ca72 rfl (wire_Reader_Num.ok b0_ (⟨q17.2⟩ : wire_Reader) 18446744073709551615 (Sum.inl ra221) hr219) (fun _ _ _ h => h))) ?_
                                                    refine r_u (o_mv rfl) ?_
                                                    obtain rfl := Option.some.inj hm230
                                                    try dsimp only at hm215
                                                    obtain rfl := Option.some.inj hm215
                                                    try dsimp only at hm185
                                                    obtain rfl := Option.some.inj hm185
                                                    try dsimp only at hm157
                                                    obtain rfl := Option.some.inj hm157
                                                    try dsimp only at hm141
                                                    obtain rfl := Option.some.inj hm141
                                                    try dsimp only at hm125
                                                    obtain rfl := Option.some.inj hm125
                                                    try dsimp only at hm102
                                                    obtain rfl := Option.some.inj hm102
                                                    try dsimp only at hm80
                                                    obtain rfl := Option.some.inj hm80
                                                    try dsimp only at hm54
                                                    obtain rfl := Option.some.inj hm54
                                                    try dsimp only at hm38
                                                    obtain rfl := Option.some.inj hm38
                                                    try dsimp only at hm30
                                                    obtain rfl := Option.some.inj hm30
                                                    exact r_sw (s_w (o_callR ca72 rfl (wire_Reader_Num.ok b0_ ra221.2 18446744073709551615 (Sum.inr (rn228, ro229)) hr225) (by rintro _ _ _ ⟨rfl, rfl⟩; exact (px_st (fun _ h => st_pk 5 [0] (by decide) h) (px_of (Le.refl _) (.inr ⟨_, rfl, _, rfl, rfl, rfl⟩)))))) (fun _ _ _ _ h => h.elim)
                                                · have hm224 := sm_r hm220
                                                  clear hm220
                                                  refine c_reg ?_
                                                  refine r_u (o_mv rfl) ?_
                                                  refine rl_st (fun _ h => st_pk 5 [1, 0, 2, 3, 4] (by decide) h) ?_
                                                  obtain rfl := Option.some.inj hm224
                                                  try dsimp only at hm215
                                                  obtain rfl := Option.some.inj hm215
                                                  try dsimp only at hm185
                                                  obtain rfl := Option.some.inj hm185
                                                  try dsimp only at hm157
                                                  obtain rfl := Option.some.inj hm157
                                                  try dsimp only at hm141
                                                  obtain rfl := Option.some.inj hm141
                                                  try dsimp only at hm125
                                                  obtain rfl := Option.some.inj hm125
                                                  try dsimp only at hm102
                                                  obtain rfl := Option.some.inj hm102
                                                  try dsimp only at hm80
                                                  obtain rfl := Option.some.inj hm80
                                                  try dsimp only at hm54
                                                  obtain rfl := Option.some.inj hm54
                                                  try dsimp only at hm38
                                                  obtain rfl := Option.some.inj hm38
                                                  try dsimp only at hm30
                                                  obtain rfl := Option.some.inj hm30
                                                  exact r_sw (s_w (o_callR ca72 rfl (wire_Reader_Num.ok b0_ (⟨q17.2⟩ : wire_Reader) 18446744073709551615 (Sum.inr (rn222, ro223)) hr219) (by rintro _ _ _ ⟨rfl, rfl⟩; exact (px_st (fun _ h => st_pk 5 [0] (by decide) h) (px_of (Le.refl _) (.inr ⟨_, rfl, _, rfl, rfl, rfl⟩)))))) (fun _ _ _ _ h => h.elim)
                                              · have hm218 := iff_ hp214 h217
                                                clear hp214
                                                refine c_seq ?_
                                                refine c_reg ?_
                                                refine r_u (o_bin rfl rfl (bI_eq q17.1.Kind 13)) ?_
                                                refine r_u (o_as rfl) ?_
                                                refine r_nil ?_
                                                refine x_seq ?_
                                                obtain ⟨p262, hp264, hm265⟩ := bs hm218
                                                refine cd_joinS (p := p262) (Ef := fun q263 => [(2, pt b0 0), (3, pt b9 0)]) (Lf := fun q263 => Bk b9 37 [vI q263.1.Kind, vW q263.1.View.V, vI q263.1.View.Primary, vW q263.1.View.PLife, vI q263.1.View.Backup, vW q263.1.View.BLife, vW q263.1.View.Epoch, vW q263.1.Value.V, vI q263.1.Value.Primary, vW q263.1.Value.PLife, vI q263.1.Value.Backup, vW q263.1.Value.BLife, vW q263.1.Value.Epoch, vW q263.1.Ballot, vB q263.1.Promise.OK, vW q263.1.Promise.V, vW q263.1.Promise.Most, vW q263.1.Promise.Ballot, vW q263.1.Promise.Value.V, vI q263.1.Promise.Value.Primary, vW q263.1.Promise.Value.PLife, vI q263.1.Promise.Value.Backup, vW q263.1.Promise.Value.BLife, vW q263.1.Promise.Value.Epoch, vW q263.1.Promise.Chosen.V, vI q263.1.Promise.Chosen.Primary, vW q263.1.Promise.Chosen.PLife, vI q263.1.Promise.Chosen.Backup, vW q263.1.Promise.Chosen.BLife, vW q263.1.Promise.Chosen.Epoch, vW q263.1.Seq, vW q263.1.Done, vW q263.1.Life, g18.Records, vI q263.1.Piece.N, vI q263.1.Piece.Of, vS q263.1.Piece.Data, vS q263.1.Piece.Sum, vS q263.1.Piece.Whole, vS q263.1.Digest, g18.Sums, vW q263.1.Session, vW q263.1.Num, vI q263.1.Op.Kind, vS q263.1.Op.Key, vS q263.1.Op.Value, vW q263.1.Op.TTL, vW q263.1.Op.Version, vI q263.1.Reply.E, vS q263.1.Reply.Value, vW q263.1.Reply.Version] :: Bk b0_ 114 [vS q263.2] :: Bk b0 37 [vI 0, vW 0, vI 0, vW 0, vI 0, vW 0, vW 0, vW 0, vI 0, vW 0, vI 0, vW 0, vW 0, vW 0, vB false, vW 0, vW 0, vW 0, vW 0, vI 0, vW 0, vI 0, vW 0, vW 0, vW 0, vI 0, vW 0, vI 0, vW 0, vW 0, vW 0, vW 0, vW 0, .slice none 0 0, vI 0, vI 0, vS [], vS [], vS [], vS [], .slice none 0 0, vW 0, vW 0, vI 0, vS [], vS [], vW 0, vW 0, vI 0, vS [], vW 0] :: OwS true 89 9 api_Record.c g18.Records q263.1.Records :: OwS true 9 1 eS g18.Sums q263.1.Sums :: F) (fun q263 hq => ?_) fun K266 => ?_
                                                · subst hq
                                                  try dsimp only at hm265
                                                  obtain rfl := Option.some.inj hm265
                                                  exact x_sub (K216 _ rfl g18) ⟨rfl, rfl, trivial⟩ (fun _ h => st_pk 5 [0, 1, 2, 3, 4] (by decide) h)
                                                · refine c_if (b := (q17.1.Kind == 13)) rfl (fun h267 => ?_) fun h267 => ?_
                                                  · have hm268 := ift hp264 h267
                                                    clear hp264
                                                    obtain ⟨r269, hr269, hm270⟩ := bs hm268
                                                    clear hm268
                                                    rcases r269 with ra271 | ⟨rn272, ro273⟩
                                                    · have hm274 := sm_l hm270
                                                      clear hm270
                                                      obtain ⟨r275, hr275, hm276⟩ := bs hm274
                                                      clear hm274
                                                      rcases r275 with ra277 | ⟨rn278, ro279⟩
                                                      · have hm280 := sm_l hm276
                                                        clear hm276
                                                        obtain ⟨r281, hr281, hm282⟩ := bs hm280
                                                        clear hm280
                                                        rcases r281 with ra283 | ⟨rn284, ro285⟩
                                                        · have hm286 := sm_l hm282
                                                          clear hm282
                                                          refine c_reg ?_
                                                          refine r_u (o_mv rfl) ?_
                                                          refine rl_st (fun _ h => st_pk 5 [1, 0, 2, 3, 4] (by decide) h) ?_
                                                          refine r_c (s_w (o_callL ca72 rfl (wire_Reader_Num.ok b0_ (⟨q17.2⟩ : wire_Reader) 18446744073709551615 (Sum.inl ra271) hr269) (fun _ _ _ h => h))) ?_
                                                          refine r_u (o_mv rfl) ?_
                                                          refine r_c (s_w (o_callL ca72 rfl (wire_Reader_Num.ok b0_ ra271.2 18446744073709551615 (Sum.inl ra277) hr275) (fun _ _ _ h => h))) ?_
                                                          refine r_u (o_mv rfl) ?_
                                                          refine r_c (s_w (o_callL ca79 rfl (op_Take.ok b0_ ra277.2 (Sum.inl ra283) hr281) (fun _ _ _ h => h))) ?_
                                                          refine r_u (o_fa fa37_12 rfl) ?_
                                                          refine rl_st (fun _ h => st_pk 5 [1, 0, 2, 3, 4] (by decide) h) ?_
                                                          refine r_u0 (o_st sc22 rfl rfl rfl rfl rfl rfl) ?_
                                                          refine r_u (o_fa fa37_13 rfl) ?_
                                                          refine r_u0 (o_st sc22 rfl rfl rfl rfl rfl rfl) ?_
                                                          refine r_u (o_fa fa37_14 rfl) ?_
                                                          refine r_u0 (o_stn ag32 rfl rfl rfl rfl rfl rfl rfl) ?_
                                                          refine r_nil ?_
                                                          obtain rfl := Option.some.inj hm286
                                                          exact x_sub (K266 _ rfl) ⟨rfl, rfl, trivial⟩ (fun _ h => st_pk 5 [0, 1, 2, 3, 4] (by decide) h)
                                                        · have hm286 := sm_r hm282
                                                          clear hm282
                                                          refine c_reg ?_
                                                          refine r_u (o_mv rfl) ?_
                                                          refine rl_st (fun _ h => st_pk 5 [1, 0, 2, 3, 4] (by decide) h) ?_
                                                          refine r_c (s_w (o_callL ca72 rfl (wire_Reader_Num.ok b0_ (⟨q17.2⟩ : wire_Reader) 18446744073709551615 (Sum.inl ra271) hr269) (fun _ _ _ h => h))) ?_
                                                          refine r_u (o_mv rfl) ?_
                                                          refine r_c (s_w (o_callL ca72 rfl (wire_Reader_Num.ok b0_ ra271.2 18446744073709551615 (Sum.inl ra277) hr275) (fun _ _ _ h => h))) ?_
                                                          refine r_u (o_mv rfl) ?_
                                                          obtain rfl := Option.some.inj hm286
                                                          try dsimp only at hm265
                                                          obtain rfl := Option.some.inj hm265
                                                          try dsimp only at hm215
                                                          obtain rfl := Option.some.inj hm215
                                                          try dsimp only at hm185
                                                          obtain rfl := Option.some.inj hm185
                                                          try dsimp only at hm157
                                                          obtain rfl := Option.some.inj hm157
                                                          try dsimp only at hm141
                                                          obtain rfl := Option.some.inj hm141
                                                          try dsimp only at hm125
                                                          obtain rfl := Option.some.inj hm125
                                                          try dsimp only at hm102
                                                          obtain rfl := Option.some.inj hm102
                                                          try dsimp only at hm80
                                                          obtain rfl := Option.some.inj hm80
                                                          try dsimp only at hm54
                                                          obtain rfl := Option.some.inj hm54
                                                          try dsimp only at hm38
                                                          obtain rfl := Option.some.inj hm38
                                                          try dsimp only at hm30
                                                          obtain rfl := Option.some.inj hm30
                                                          exact r_sw (s_w (o_callR ca79 rfl (op_Take.ok b0_ ra277.2 (Sum.inr (rn284, ro285)) hr281) (by rintro _ _ _ ⟨rfl, rfl⟩; exact (px_st (fun _ h => st_pk 5 [0] (by decide) h) (px_of (Le.refl _) (.inr ⟨_, rfl, _, rfl, rfl, rfl⟩)))))) (fun _ _ _ _ h => h.elim)
                                                      · have hm280 := sm_r hm276
                                                        clear hm276
                                                        refine c_reg ?_
                                                        refine r_u (o_mv rfl) ?_
                                                        refine rl_st (fun _ h => st_pk 5 [1, 0, 2, 3, 4] (by decide) h) ?_
                                                        refine r_c (s_w (o_callL ca72 rfl (wire_Reader_Num.ok b0_ (⟨q17.2⟩ : wire_Reader) 18446744073709551615 (Sum.inl ra271) hr269) (fun _ _ _ h => h))) ?_
                                                        refine r_u (o_mv rfl) ?_
                                                        obtain rfl := Option.some.inj hm280
                                                        try dsimp only at hm265
                                                        obtain rfl := Option.some.inj hm265
                                                        try dsimp only at hm215
                                                        obtain rfl := Option.some.inj hm215
                                                        try dsimp only at hm185
                                                        obtain rfl := Option.some.inj hm185
                                                        try dsimp only at hm157
                                                        obtain rfl := Option.some.inj hm157
                                                        try dsimp only at hm141
                                                        obtain rfl := Option.some.inj hm141
                                                        try dsimp only at hm125
                                                        obtain rfl := Option.some.inj hm125
                                                        try dsimp only at hm102
                                                        obtain rfl := Option.some.inj hm102
                                                        try dsimp only at hm80
                                                        obtain rfl := Option.some.inj hm80
                                                        try dsimp only at hm54
                                                        obtain rfl := Option.some.inj hm54
                                                        try dsimp only at hm38
                                                        obtain rfl := Option.some.inj hm38
                                                        try dsimp only at hm30
                                                        obtain rfl := Option.some.inj hm30
                                                        exact r_sw (s_w (o_callR ca72 rfl (wire_Reader_Num.ok b0_ ra271.2 18446744073709551615 (Sum.inr (rn278, ro279)) hr275) (by rintro _ _ _ ⟨rfl, rfl⟩; exact (px_st (fun _ h => st_pk 5 [0] (by decide) h) (px_of (Le.refl _) (.inr ⟨_, rfl, _, rfl, rfl, rfl⟩)))))) (fun _ _ _ _ h => h.elim)
                                                    · have hm274 := sm_r hm270
                                                      clear hm270
                                                      refine c_reg ?_
                                                      refine r_u (o_mv rfl) ?_
                                                      refine rl_st (fun _ h => st_pk 5 [1, 0, 2, 3, 4] (by decide) h) ?_
                                                      obtain rfl := Option.some.inj hm274
                                                      try dsimp only at hm265
                                                      obtain rfl := Option.some.inj hm265
                                                      try dsimp only at hm215
                                                      obtain rfl := Option.some.inj hm215
                                                      try dsimp only at hm185
                                                      obtain rfl := Option.some.inj hm185
                                                      try dsimp only at hm157
                                                      obtain rfl := Option.some.inj hm157
                                                      try dsimp only at hm141
                                                      obtain rfl := Option.some.inj hm141
                                                      try dsimp only at hm125
                                                      obtain rfl := Option.some.inj hm125
                                                      try dsimp only at hm102
                                                      obtain rfl := Option.some.inj hm102
                                                      try dsimp only at hm80
                                                      obtain rfl := Option.some.inj hm80
                                                      try dsimp only at hm54
                                                      obtain rfl := Option.some.inj hm54
                                                      try dsimp only at hm38
                                                      obtain rfl := Option.some.inj hm38
                                                      try dsimp only at hm30
                                                      obtain rfl := Option.some.inj hm30
                                                      exact r_sw (s_w (o_callR ca72 rfl (wire_Reader_Num.ok b0_ (⟨q17.2⟩ : wire_Reader) 18446744073709551615 (Sum.inr (rn272, ro273)) hr269) (by rintro _ _ _ ⟨rfl, rfl⟩; exact (px_st (fun _ h => st_pk 5 [0] (by decide) h) (px_of (Le.refl _) (.inr ⟨_, rfl, _, rfl, rfl, rfl⟩)))))) (fun _ _ _ _ h => h.elim)
                                                  · have hm268 := iff_ hp264 h267
                                                    clear hp264
                                                    refine c_seq ?_
                                                    refine c_reg ?_
                                                    refine r_u (o_bin rfl rfl (bI_eq q17.1.Kind 14)) ?_
                                                    refine r_u (o_as rfl) ?_
                                                    refine r_nil ?_
                                                    refine x_seq ?_
                                                    obtain ⟨p287, hp289, hm290⟩ := bs hm268
                                                    refine cd_joinS (p := p287) (Ef := fun q288 => [(2, pt b0 0), (3, pt b9 0)]) (Lf := fun q288 => Bk b9 37 [vI q288.1.Kind, vW q288.1.View.V, vI q288.1.View.Primary, vW q288.1.View.PLife, vI q288.1.View.Backup, vW q288.1.View.BLife, vW q288.1.View.Epoch, vW q288.1.Value.V, vI q288.1.Value.Primary, vW q288.1.Value.PLife, vI q288.1.Value.Backup, vW q288.1.Value.BLife, vW q288.1.Value.Epoch, vW q288.1.Ballot, vB q288.1.Promise.OK, vW q288.1.Promise.V, vW q288.1.Promise.Most, vW q288.1.Promise.Ballot, vW q288.1.Promise.Value.V, vI q288.1.Promise.Value.Primary, vW q288.1.Promise.Value.PLife, vI q288.1.Promise.Value.Backup, vW q288.1.Promise.Value.BLife, vW q288.1.Promise.Value.Epoch, vW q288.1.Promise.Chosen.V, vI q288.1.Promise.Chosen.Primary, vW q288.1.Promise.Chosen.PLife, vI q288.1.Promise.Chosen.Backup, vW q288.1.Promise.Chosen.BLife, vW q288.1.Promise.Chosen.Epoch, vW q288.1.Seq, vW q288.1.Done, vW q288.1.Life, g18.Records, vI q288.1.Piece.N, vI q288.1.Piece.Of, vS q288.1.Piece.Data, vS q288.1.Piece.Sum, vS q288.1.Piece.Whole, vS q288.1.Digest, g18.Sums, vW q288.1.Session, vW q288.1.Num, vI q288.1.Op.Kind, vS q288.1.Op.Key, vS q288.1.Op.Value, vW q288.1.Op.TTL, vW q288.1.Op.Version, vI q288.1.Reply.E, vS q288.1.Reply.Value, vW q288.1.Reply.Version] :: Bk b0_ 114 [vS q288.2] :: Bk b0 37 [vI 0, vW 0, vI 0, vW 0, vI 0, vW 0, vW 0, vW 0, vI 0, vW 0, vI 0, vW 0, vW 0, vW 0, vB false, vW 0, vW 0, vW 0, vW 0, vI 0, vW 0, vI 0, vW 0, vW 0, vW 0, vI 0, vW 0, vI 0, vW 0, vW 0, vW 0, vW 0, vW 0, .slice none 0 0, vI 0, vI 0, vS [], vS [], vS [], vS [], .slice none 0 0, vW 0, vW 0, vI 0, vS [], vS [], vW 0, vW 0, vI 0, vS [], vW 0] :: OwS true 89 9 api_Record.c g18.Records q288.1.Records :: OwS true 9 1 eS g18.Sums q288.1.Sums :: F) (fun q288 hq => ?_) fun K291 => ?_
                                                    · subst hq
                                                      try dsimp only at hm290
                                                      obtain rfl := Option.some.inj hm290
                                                      exact x_sub (K266 _ rfl) ⟨rfl, rfl, trivial⟩ (fun _ h => st_pk 5 [0, 1, 2, 3, 4] (by decide) h)
                                                    · refine c_if (b := (q17.1.Kind == 14)) rfl (fun h292 => ?_) fun h292 => ?_
                                                      · have hm293 := ift hp289 h292
                                                        clear hp289
                                                        obtain ⟨r294, hr294, hm295⟩ := bs hm293
                                                        clear hm293
                                                        rcases r294 with ra296 | ⟨rn297, ro298⟩
                                                        · have hm299 := sm_l hm295
                                                          clear hm295
                                                          obtain ⟨r300, hr300, hm301⟩ := bs hm299
                                                          clear hm299
                                                          rcases r300 with ra302 | ⟨rn303, ro304⟩
                                                          · have hm305 := sm_l hm301
                                                            clear hm301
                                                            obtain ⟨r306, hr306, hm307⟩ := bs hm305
                                                            clear hm305
                                                            rcases r306 with ra308 | ⟨rn309, ro310⟩
                                                            · have hm311 := sm_l hm307
                                                              clear hm307
                                                              obtain ⟨r312, hr312, hm313⟩ := bs hm311
                                                              clear hm311
                                                              rcases r312 with ra314 | ⟨rn315, ro316⟩
                                                              · have hm317 := sm_l hm313
                                                                clear hm313
                                                                refine c_reg ?_
                                                                refine r_u (o_mv rfl) ?_
                                                                refine rl_st (fun _ h => st_pk 5 [1, 0, 2, 3, 4] (by decide) h) ?_
                                                                refine r_c (s_w (o_callL ca72 rfl (wire_Reader_Num.ok b0_ (⟨q17.2⟩ : wire_Reader) 18446744073709551615 (Sum.inl ra296) hr294) (fun _ _ _ h => h))) ?_
                                                                refine r_u (o_mv rfl) ?_
                                                                refine r_c (s_w (o_callL ca72 rfl (wire_Reader_Num.ok b0_ ra296.2 18446744073709551615 (Sum.inl ra302) hr300) (fun _ _ _ h => h))) ?_
                                                                refine r_u (o_mv rfl) ?_
                                                                refine r_c (s_w (o_callL ca72 rfl (wire_Reader_Num.ok b0_ ra302.2 18446744073709551615 (Sum.inl ra308) hr306) (fun _ _ _ h => h))) ?_
                                                                refine r_u (o_mv rfl) ?_
                                                                refine r_c (s_w (o_callL ca80 rfl (op_TakeReply.ok b0_ ra308.2 (Sum.inl ra314) hr312) (fun _ _ _ h => h))) ?_
                                                                refine r_u (o_fa fa37_12 rfl) ?_
                                                                refine rl_st (fun _ h => st_pk 5 [1, 0, 2, 3, 4] (by decide) h) ?_
                                                                refine r_u0 (o_st sc22 rfl rfl rfl rfl rfl rfl) ?_
                                                                refine r_u (o_fa fa37_13 rfl) ?_
                                                                refine r_u0 (o_st sc22 rfl rfl rfl rfl rfl rfl) ?_
                                                                refine r_u (o_fa fa37_5 rfl) ?_
                                                                refine r_u0 (o_st sc22 rfl rfl rfl rfl rfl rfl) ?_
                                                                refine r_u (o_fa fa37_15 rfl) ?_
                                                                refine r_u0 (o_stn ag35 rfl rfl rfl rfl rfl rfl rfl) ?_
                                                                refine r_nil ?_
                                                                obtain rfl := Option.some.inj hm317
                                                                exact x_sub (K291 _ rfl) ⟨rfl, rfl, trivial⟩ (fun _ h => st_pk 5 [0, 1, 2, 3, 4] (by decide) h)
                                                              · have hm317 := sm_r hm313
                                                                clear hm313
                                                                refine c_reg ?_
                                                                refine r_u (o_mv rfl) ?_
                                                                refine rl_st (fun _ h => st_pk 5 [1, 0, 2, 3, 4] (by decide) h) ?_
                                                                refine r_c (s_w (o_callL ca72 rfl (wire_Reader_Num.ok b0_ (⟨q17.2⟩ : wire_Reader) 18446744073709551615 (Sum.inl ra296) hr294) (fun _ _ _ h => h))) ?_
                                                                refine r_u (o_mv rfl) ?_
                                                                refine r_c (s_w (o_callL ca72 rfl (wire_Reader_Num.ok b0_ ra296.2 18446744073709551615 (Sum.inl ra302) hr300) (fun _ _ _ h => h))) ?_
                                                                refine r_u (o_mv rfl) ?_
                                                                refine r_c (s_w (o_callL ca72 rfl (wire_Reader_Num.ok b0_ ra302.2 18446744073709551615 (Sum.inl ra308) hr306) (fun _ _ _ h => h))) ?_
                                                                refine r_u (o_mv rfl) ?_
                                                                obtain rfl := Option.some.inj hm317
                                                                try dsimp only at hm290
                                                                obtain rfl := Option.some.inj hm290
                                                                try dsimp only at hm265
                                                                obtain rfl := Option.some.inj hm265
                                                                try dsimp only at hm215
                                                                obtain rfl := Option.some.inj hm215
                                                                try dsimp only at hm185
                                                                obtain rfl := Option.some.inj hm185
                                                                try dsimp only at hm157
                                                                obtain rfl := Option.some.inj hm157
                                                                try dsimp only at hm141
                                                                obtain rfl := Option.some.inj hm141
                                                                try dsimp only at hm125
                                                                obtain rfl := Option.some.inj hm125
                                                                try dsimp only at hm102
                                                                obtain rfl := Option.some.inj hm102
                                                                try dsimp only at hm80
                                                                obtain rfl := Option.some.inj hm80
                                                                try dsimp only at hm54
                                                                obtain rfl := Option.some.inj hm54
                                                                try dsimp only at hm38
                                                                obtain rfl := Option.some.inj hm38
                                                                try dsimp only at hm30
                                                                obtain rfl := Option.some.inj hm30
                                                                exact r_sw (s_w (o_callR ca80 rfl (op_TakeReply.ok b0_ ra308.2 (Sum.inr (rn315, ro316)) hr312) (by rintro _ _ _ ⟨rfl, rfl⟩; exact (px_st (fun _ h => st_pk 5 [0] (by decide) h) (px_of (Le.refl _) (.inr ⟨_, rfl, _, rfl, rfl, rfl⟩)))))) (fun _ _ _ _ h => h.elim)
                                                            · have hm311 := sm_r hm307
                                                              clear hm307
                                                              refine c_reg ?_
                                                              refine r_u (o_mv rfl) ?_
                                                              refine rl_st (fun _ h => st_pk 5 [1, 0, 2, 3, 4] (by decide) h) ?_
                                                              refine r_c (s_w (o_callL ca72 rfl (wire_Reader_Num.ok b0_ (⟨q17.2⟩ : wire_Reader) 18446744073709551615 (Sum.inl ra296) hr294) (fun _ _ _ h => h))) ?_
                                                              refine r_u (o_mv rfl) ?_
                                                              refine r_c (s_w (o_callL ca72 rfl (wire_Reader_Num.ok b0_ ra296.2 18446744073709551615 (Sum.inl ra302) hr300) (fun _ _ _ h => h))) ?_
                                                              refine r_u (o_mv rfl) ?_
                                                              obtain rfl := Option.some.inj hm311
                                                              try dsimp only at hm290
                                                              obtain rfl := Option.some.inj hm290
                                                              try dsimp only at hm265
                                                              obtain rfl := Option.some.inj hm265
                                                              try dsimp only at hm215
                                                              obtain rfl := Option.some.inj hm215
                                                              try dsimp only at hm185
                                                              obtain rfl := Option.some.inj hm185
                                                              try dsimp only at hm157
                                                              obtain rfl := Option.some.inj hm157
                                                              try dsimp only at hm141
                                                              obtain rfl := Option.some.inj hm141
                                                              try dsimp only at hm125
                                                              obtain rfl := Option.some.inj hm125
                                                              try dsimp only at hm102
                                                              obtain rfl := Option.some.inj hm102
                                                              try dsimp only at hm80
                                                              obtain rfl := Option.some.inj hm80
                                                              try dsimp only at hm54
                                                              obtain rfl := Option.some.inj hm54
                                                              try dsimp only at hm38
                                                              obtain rfl := Option.some.inj hm38
                                                              try dsimp only at hm30
                                                              obtain rfl := Option.some.inj hm30
                                                              exact r_sw (s_w (o_callR ca72 rfl (wire_Reader_Num.ok b0_ ra302.2 18446744073709551615 (Sum.inr (rn309, ro310)) hr306) (by rintro _ _ _ ⟨rfl, rfl⟩; exact (px_st (fun _ h => st_pk 5 [0] (by decide) h) (px_of (Le.refl _) (.inr ⟨_, rfl, _, rfl, rfl, rfl⟩)))))) (fun _ _ _ _ h => h.elim)
                                                          · have hm305 := sm_r hm301
                                                            clear hm301
                                                            refine c_reg ?_
                                                            refine r_u (o_mv rfl) ?_
                                                            refine rl_st (fun _ h => st_pk 5 [1, 0, 2, 3, 4] (by decide) h) ?_
                                                            refine r_c (s_w (o_callL ca72 rfl (wire_Reader_Num.ok b0_ (⟨q17.2⟩ : wire_Reader) 18446744073709551615 (Sum.inl ra296) hr294) (fun _ _ _ h => h))) ?_
                                                            refine r_u (o_mv rfl) ?_
                                                            obtain rfl := Option.some.inj hm305
                                                            try dsimp only at hm290
                                                            obtain rfl := Option.some.inj hm290
                                                            try dsimp only at hm265
                                                            obtain rfl := Option.some.inj hm265
                                                            try dsimp only at hm215
                                                            obtain rfl := Option.some.inj hm215
                                                            try dsimp only at hm185
                                                            obtain rfl := Option.some.inj hm185
                                                            try dsimp only at hm157
                                                            obtain rfl := Option.some.inj hm157
                                                            try dsimp only at hm141
                                                            obtain rfl := Option.some.inj hm141
                                                            try dsimp only at hm125
                                                            obtain rfl := Option.some.inj hm125
                                                            try dsimp only at hm102
                                                            obtain rfl := Option.some.inj hm102
                                                            try dsimp only at hm80
                                                            obtain rfl := Option.some.inj hm80
                                                            try dsimp only at hm54
                                                            obtain rfl := Option.some.inj hm54
                                                            try dsimp only at hm38
                                                            obtain rfl := Option.some.inj hm38
                                                            try dsimp only at hm30
                                                            obtain rfl := Option.some.inj hm30
                                                            exact r_sw (s_w (o_callR ca72 rfl (wire_Reader_Num.ok b0_ ra296.2 18446744073709551615 (Sum.inr (rn303, ro304)) hr300) (by rintro _ _ _ ⟨rfl, rfl⟩; exact (px_st (fun _ h => st_pk 5 [0] (by decide) h) (px_of (Le.refl _) (.inr ⟨_, rfl, _, rfl, rfl, rfl⟩)))))) (fun _ _ _ _ h => h.elim)
                                                        · have hm299 := sm_r hm295
                                                          clear hm295
                                                          refine c_reg ?_
                                                          refine r_u (o_mv rfl) ?_
                                                          refine rl_st (fun _ h => st_pk 5 [1, 0, 2, 3, 4] (by decide) h) ?_
                                                          obtain rfl := Option.some.inj hm299
                                                          try dsimp only at hm290
                                                          obtain rfl := Option.some.inj hm290
                                                          try dsimp only at hm265
                                                          obtain rfl := Option.some.inj hm265
                                                          try dsimp only at hm215
                                                          obtain rfl := Option.some.inj hm215
                                                          try dsimp only at hm185
                                                          obtain rfl := Option.some.inj hm185
                                                          try dsimp only at hm157
                                                          obtain rfl := Option.some.inj hm157
                                                          try dsimp only at hm141
                                                          obtain rfl := Option.some.inj hm141
                                                          try dsimp only at hm125
                                                          obtain rfl := Option.some.inj hm125
                                                          try dsimp only at hm102
                                                          obtain rfl := Option.some.inj hm102
                                                          try dsimp only at hm80
                                                          obtain rfl := Option.some.inj hm80
                                                          try dsimp only at hm54
                                                          obtain rfl := Option.some.inj hm54
                                                          try dsimp only at hm38
                                                          obtain rfl := Option.some.inj hm38
                                                          try dsimp only at hm30
                                                          obtain rfl := Option.some.inj hm30
                                                          exact r_sw (s_w (o_callR ca72 rfl (wire_Reader_Num.ok b0_ (⟨q17.2⟩ : wire_Reader) 18446744073709551615 (Sum.inr (rn297, ro298)) hr294) (by rintro _ _ _ ⟨rfl, rfl⟩; exact (px_st (fun _ h => st_pk 5 [0] (by decide) h) (px_of (Le.refl _) (.inr ⟨_, rfl, _, rfl, rfl, rfl⟩)))))) (fun _ _ _ _ h => h.elim)
                                                      · have hm293 := iff_ hp289 h292
                                                        clear hp289
                                                        refine c_skip ?_
                                                        obtain rfl := Option.some.inj hm293
                                                        exact x_sub (K291 _ rfl) ⟨rfl, rfl, trivial⟩ (fun _ h => st_pk 5 [0, 1, 2, 3, 4] (by decide) h)
                  · refine c_if (b := (q17.1.Kind == 4)) rfl (fun h318 => ?_) fun h318 => ?_
                    · have hm319 := ift hp71 h318
                      clear hp71
                      refine c_skip ?_
                      obtain rfl := Option.some.inj hm319
                      exact x_sub K73 ⟨rfl, rfl, rfl, rfl, rfl, trivial⟩ (fun _ h => st_pk 5 [0, 1, 2, 3, 4] (by decide) h)
                    · have hm319 := iff_ hp71 h318
                      clear hp71
                      refine c_reg ?_
                      refine r_u (o_bin rfl rfl (bI_eq q17.1.Kind 6)) ?_
                      refine r_u (o_as rfl) ?_
                      refine r_nil ?_
                      obtain rfl := Option.some.inj hm319
                      exact x_sub K73 ⟨rfl, rfl, rfl, rfl, rfl, trivial⟩ (fun _ h => st_pk 5 [0, 1, 2, 3, 4] (by decide) h)
      · refine c_if (b := ((n7 != 1) && (n7 != 13))) rfl (fun h320 => ?_) fun h320 => ?_
        · have hm321 := ift hp21 h320
          clear hp21
          obtain ⟨r322, hr322, hm323⟩ := bs hm321
          clear hm321
          rcases r322 with ra324 | ⟨rn325, ro326⟩
          · have hm327 := sm_l hm323
            clear hm323
            refine c_reg ?_
            refine r_u (o_mv rfl) ?_
            refine r_c (s_w (o_callL ca74 rfl (cell_TakeView.ok b0_ ra3.2 (Sum.inl ra324) hr322) (fun _ _ _ h => h))) ?_
            refine r_u (o_fa fa37_1 rfl) ?_
            refine rl_st (fun _ h => st_pk 3 [1, 0, 2] (by decide) h) ?_
            refine r_u0 (o_stn ag24 rfl rfl rfl rfl rfl rfl rfl) ?_
            refine r_nil ?_
            refine ex_st (fun _ h => st_nil (ap := true) (T := 89) (sz := 9) (en := api_Record.c) h) ?_
            refine ex_st (fun _ h => st_nil (ap := true) (T := 9) (sz := 1) (en := eS) h) ?_
            obtain rfl := Option.some.inj hm327
            exact x_sub (K23 _ rfl (⟨.slice none 0 0, .slice none 0 0 ⟩ : api_Say.G)) ⟨rfl, rfl, rfl, trivial⟩ (fun _ h => st_pk 5 [2, 3, 4, 1, 0] (by decide) h)
          · have hm327 := sm_r hm323
            clear hm323
            refine c_reg ?_
            refine r_u (o_mv rfl) ?_
            obtain rfl := Option.some.inj hm327
            try dsimp only at hm22
            obtain rfl := Option.some.inj hm22
            exact r_sw (s_w (o_callR ca74 rfl (cell_TakeView.ok b0_ ra3.2 (Sum.inr (rn325, ro326)) hr322) (by rintro _ _ _ ⟨rfl, rfl⟩; exact (px_st (fun _ h => st_pk 3 [0] (by decide) h) (px_of (Le.refl _) (.inr ⟨_, rfl, _, rfl, rfl, rfl⟩)))))) (fun _ _ _ _ h => h.elim)
        · have hm321 := iff_ hp21 h320
          clear hp21
          refine c_skip ?_
          refine ex_st (fun _ h => st_nil (ap := true) (T := 89) (sz := 9) (en := api_Record.c) h) ?_
          refine ex_st (fun _ h => st_nil (ap := true) (T := 9) (sz := 1) (en := eS) h) ?_
          obtain rfl := Option.some.inj hm321
          exact x_sub (K23 _ rfl (⟨.slice none 0 0, .slice none 0 0 ⟩ : api_Say.G)) ⟨rfl, rfl, rfl, trivial⟩ (fun _ h => st_pk 5 [3, 2, 4, 1, 0] (by decide) h)
    · have hm15 := sm_r hm11
      clear hm11
      refine c_reg ?_
      refine r_u (o_mv rfl) ?_
      refine r_u (o_fa fa37_0 rfl) ?_
      refine r_u (o_ld 0 sc3 rfl rfl rfl) ?_
      refine r_u (o_bin rfl rfl (bI_ge n7 1)) ?_
      refine rl_st (fun _ h => st_pk 3 [1, 0, 2] (by decide) h) ?_
      obtain rfl := Option.some.inj hm15
      exact r_sw (s_w (o_callR ca73 rfl (wire_Reader_Must.ok b0_ ra3.2 (decide (1 ≤ n7)) (Sum.inr (rn13, ro14)) hr10) (by rintro _ _ _ ⟨rfl, rfl⟩; exact (px_st (fun _ h => st_pk 3 [0] (by decide) h) (px_of (Le.refl _) (.inr ⟨_, rfl, _, rfl, rfl, rfl⟩)))))) (fun _ _ _ _ h => h.elim)
  · have hm6 := sm_r hm2
    clear hm2
    refine c_reg ?_
    refine r_u (o_mv rfl) ?_
    refine rl_st (fun _ h => st_pk 2 [1, 0] (by decide) h) ?_
    obtain rfl := Option.some.inj hm6
    exact r_sw (s_w (o_callR ca72 rfl (wire_Reader_Num.ok b0_ a0 15 (Sum.inr (rn4, ro5)) hr1) (by rintro _ _ _ ⟨rfl, rfl⟩; exact (px_st (fun _ h => st_pk 2 [0] (by decide) h) (px_of (Le.refl _) (.inr ⟨_, rfl, _, rfl, rfl, rfl⟩)))))) (fun _ _ _ _ h => h.elim)

end Go.Proofs.Ythngfieikhillaa
