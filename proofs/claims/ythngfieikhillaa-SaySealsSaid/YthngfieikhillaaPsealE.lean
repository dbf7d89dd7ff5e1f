import Derived.Test.YthngfieikhillaaW9
import Derived.Test.YthngfieikhillaaPwireS
import Derived.Test.YthngfieikhillaaPclA
import Derived.Test.YthngfieikhillaaPclT
import Derived.Test.YthngfieikhillaaPsealA
import Derived.Test.YthngfieikhillaaPsealB
import Derived.Test.YthngfieikhillaaPsealC
import Derived.Test.YthngfieikhillaaPsealD
set_option linter.unusedVariables false
set_option linter.unusedSectionVars false
set_option linter.unusedSimpArgs false
set_option maxRecDepth 100000
set_option maxHeartbeats 8000000

namespace Go.Proofs.Ythngfieikhillaa.Pure
open Go Go.Proofs.Ythngfieikhillaa.Hw Go.Proofs.Ythngfieikhillaa

def sayB (n : UInt64) (t1 : Str) : Option ((api_Say × wire_Reader) ⊕ (Int × wire_Reader)) :=
  lt (i64 (n.toNat : Int)) fun n7 => lt (wire_Reader_Must (⟨t1⟩ : wire_Reader) (decide (1 ≤ n7))) fun r10 => sm r10 (fun (ra12 : Unit) => Option.bind (if ((n7 != 1) && (n7 != 13)) then (cell_TakeView (⟨t1⟩ : wire_Reader)).bind fun r322 => sm r322 (fun (ra324 : api_View × wire_Reader) => some (Sum.inl ((⟨n7, ra324.1, (⟨0, 0, 0, 0, 0, 0⟩ : api_View), 0, (⟨false, 0, 0, 0, (⟨0, 0, 0, 0, 0, 0⟩ : api_View), (⟨0, 0, 0, 0, 0, 0⟩ : api_View)⟩ : api_Promise), 0, 0, 0, [], (⟨0, 0, [], [], []⟩ : api_Piece), [], [], 0, 0, (⟨0, [], [], 0, 0⟩ : api_Op), (⟨0, [], 0⟩ : api_Reply)⟩ : api_Say), ra324.2.s))) fun ((rn325, ro326) : Int × wire_Reader) => some (Sum.inr (Sum.inr (rn325, ro326))) else some (Sum.inl ((⟨n7, (⟨0, 0, 0, 0, 0, 0⟩ : api_View), (⟨0, 0, 0, 0, 0, 0⟩ : api_View), 0, (⟨false, 0, 0, 0, (⟨0, 0, 0, 0, 0, 0⟩ : api_View), (⟨0, 0, 0, 0, 0, 0⟩ : api_View)⟩ : api_Promise), 0, 0, 0, [], (⟨0, 0, [], [], []⟩ : api_Piece), [], [], 0, 0, (⟨0, [], [], 0, 0⟩ : api_Op), (⟨0, [], 0⟩ : api_Reply)⟩ : api_Say), (⟨t1⟩ : wire_Reader).s))) fun (p16 : (api_Say × Str) ⊕ ((api_Say × wire_Reader) ⊕ (Int × wire_Reader))) => (match p16 with | Sum.inl q17 => Option.bind (Option.bind (if (q17.1.Kind == 3) then (wire_Reader_Num (⟨q17.2⟩ : wire_Reader) 18446744073709551615).bind fun r42 => sm r42 (fun (ra44 : UInt64 × wire_Reader) => some (Sum.inl ((⟨q17.1.Kind, q17.1.View, q17.1.Value, ra44.1, q17.1.Promise, q17.1.Seq, q17.1.Done, q17.1.Life, q17.1.Records, q17.1.Piece, q17.1.Digest, q17.1.Sums, q17.1.Session, q17.1.Num, q17.1.Op, q17.1.Reply⟩ : api_Say), ra44.2.s))) fun ((rn45, ro46) : Int × wire_Reader) => some (Sum.inr (Sum.inr (Sum.inr (rn45, ro46)))) else Option.bind (if (q17.1.Kind == 5) then (wire_Reader_Num (⟨q17.2⟩ : wire_Reader) 18446744073709551615).bind fun r58 => sm r58 (fun (ra60 : UInt64 × wire_Reader) => (cell_TakeView ra60.2).bind fun r64 => sm r64 (fun (ra66 : api_View × wire_Reader) => some (Sum.inl ((⟨q17.1.Kind, q17.1.View, ra66.1, ra60.1, q17.1.Promise, q17.1.Seq, q17.1.Done, q17.1.Life, q17.1.Records, q17.1.Piece, q17.1.Digest, q17.1.Sums, q17.1.Session, q17.1.Num, q17.1.Op, q17.1.Reply⟩ : api_Say), ra66.2.s))) fun ((rn67, ro68) : Int × wire_Reader) => some (Sum.inr (Sum.inr (Sum.inr (Sum.inr (rn67, ro68)))))) fun ((rn61, ro62) : Int × wire_Reader) => some (Sum.inr (Sum.inr (Sum.inr (Sum.inr (rn61, ro62))))) else Option.bind (if (q17.1.Kind == 4) then some (q17.1.Kind == 4) else some (q17.1.Kind == 6)) fun p70 => Option.bind (if p70 then (wire_Reader_Num (⟨q17.2⟩ : wire_Reader) 18446744073709551615).bind fun r84 => sm r84 (fun (ra86 : UInt64 × wire_Reader) => (say_takePromise ra86.2).bind fun r90 => sm r90 (fun (ra92 : api_Promise × wire_Reader) => some (Sum.inl ((⟨q17.1.Kind, q17.1.View, q17.1.Value, ra86.1, ra92.1, q17.1.Seq, q17.1.Done, q17.1.Life, q17.1.Records, q17.1.Piece, q17.1.Digest, q17.1.Sums, q17.1.Session, q17.1.Num, q17.1.Op, q17.1.Reply⟩ : api_Say), ra92.2.s))) fun ((rn93, ro94) : Int × wire_Reader) => some (Sum.inr (Sum.inr (Sum.inr (Sum.inr (Sum.inr (rn93, ro94))))))) fun ((rn87, ro88) : Int × wire_Reader) => some (Sum.inr (Sum.inr (Sum.inr (Sum.inr (Sum.inr (rn87, ro88)))))) else Option.bind (if (q17.1.Kind == 7) then (wire_Reader_Num (⟨q17.2⟩ : wire_Reader) 18446744073709551615).bind fun r106 => sm r106 (fun (ra108 : UInt64 × wire_Reader) => (say_takeRecords ra108.2).bind fun r112 => sm r112 (fun (ra114 : List api_Record × wire_Reader) => some (Sum.inl ((⟨q17.1.Kind, q17.1.View, q17.1.Value, q17.1.Ballot, q17.1.Promise, q17.1.Seq, ra108.1, q17.1.Life, ra114.1, q17.1.Piece, q17.1.Digest, q17.1.Sums, q17.1.Session, q17.1.Num, q17.1.Op, q17.1.Reply⟩ : api_Say), ra114.2.s))) fun ((rn115, ro116) : Int × wire_Reader) => some (Sum.inr (Sum.inr (Sum.inr (Sum.inr (Sum.inr (Sum.inr (rn115, ro116)))))))) fun ((rn109, ro110) : Int × wire_Reader) => some (Sum.inr (Sum.inr (Sum.inr (Sum.inr (Sum.inr (Sum.inr (rn109, ro110))))))) else Option.bind (if (q17.1.Kind == 8) then (wire_Reader_Num (⟨q17.2⟩ : wire_Reader) 18446744073709551615).bind fun r129 => sm r129 (fun (ra131 : UInt64 × wire_Reader) => some (Sum.inl ((⟨q17.1.Kind, q17.1.View, q17.1.Value, q17.1.Ballot, q17.1.Promise, ra131.1, q17.1.Done, q17.1.Life, q17.1.Records, q17.1.Piece, q17.1.Digest, q17.1.Sums, q17.1.Session, q17.1.Num, q17.1.Op, q17.1.Reply⟩ : api_Say), ra131.2.s))) fun ((rn132, ro133) : Int × wire_Reader) => some (Sum.inr (Sum.inr (Sum.inr (Sum.inr (Sum.inr (Sum.inr (Sum.inr (rn132, ro133)))))))) else Option.bind (if (q17.1.Kind == 9) then (wire_Reader_Num (⟨q17.2⟩ : wire_Reader) 18446744073709551615).bind fun r145 => sm r145 (fun (ra147 : UInt64 × wire_Reader) => some (Sum.inl ((⟨q17.1.Kind, q17.1.View, q17.1.Value, q17.1.Ballot, q17.1.Promise, q17.1.Seq, q17.1.Done, ra147.1, q17.1.Records, q17.1.Piece, q17.1.Digest, q17.1.Sums, q17.1.Session, q17.1.Num, q17.1.Op, q17.1.Reply⟩ : api_Say), ra147.2.s))) fun ((rn148, ro149) : Int × wire_Reader) => some (Sum.inr (Sum.inr (Sum.inr (Sum.inr (Sum.inr (Sum.inr (Sum.inr (Sum.inr (rn148, ro149))))))))) else Option.bind (if (q17.1.Kind == 10) then (wire_Reader_Num (⟨q17.2⟩ : wire_Reader) 18446744073709551615).bind fun r161 => sm r161 (fun (ra163 : UInt64 × wire_Reader) => (wire_Reader_Num ra163.2 18446744073709551615).bind fun r167 => sm r167 (fun (ra169 : UInt64 × wire_Reader) => (say_takePiece ra169.2).bind fun r173 => sm r173 (fun (ra175 : api_Piece × wire_Reader) => some (Sum.inl ((⟨q17.1.Kind, q17.1.View, q17.1.Value, q17.1.Ballot, q17.1.Promise, ra169.1, q17.1.Done, ra163.1, q17.1.Records, ra175.1, q17.1.Digest, q17.1.Sums, q17.1.Session, q17.1.Num, q17.1.Op, q17.1.Reply⟩ : api_Say), ra175.2.s))) fun ((rn176, ro177) : Int × wire_Reader) => some (Sum.inr (Sum.inr (Sum.inr (Sum.inr (Sum.inr (Sum.inr (Sum.inr (Sum.inr (Sum.inr (rn176, ro177))))))))))) fun ((rn170, ro171) : Int × wire_Reader) => some (Sum.inr (Sum.inr (Sum.inr (Sum.inr (Sum.inr (Sum.inr (Sum.inr (Sum.inr (Sum.inr (rn170, ro171))))))))))) fun ((rn164, ro165) : Int × wire_Reader) => some (Sum.inr (Sum.inr (Sum.inr (Sum.inr (Sum.inr (Sum.inr (Sum.inr (Sum.inr (Sum.inr (rn164, ro165)))))))))) else Option.bind (if (q17.1.Kind == 11) then (wire_Reader_Num (⟨q17.2⟩ : wire_Reader) 18446744073709551615).bind fun r189 => sm r189 (fun (ra191 : UInt64 × wire_Reader) => (wire_Reader_Num ra191.2 18446744073709551615).bind fun r195 => sm r195 (fun (ra197 : UInt64 × wire_Reader) => (wire_Reader_Num ra197.2 8192).bind fun r201 => sm r201 (fun (ra203 : UInt64 × wire_Reader) => lt (i64 (ra203.1.toNat : Int)) fun n207 => some (Sum.inl ((⟨q17.1.Kind, q17.1.View, q17.1.Value, q17.1.Ballot, q17.1.Promise, ra197.1, q17.1.Done, ra191.1, q17.1.Records, (⟨n207, q17.1.Piece.Of, q17.1.Piece.Data, q17.1.Piece.Sum, q17.1.Piece.Whole⟩ : api_Piece), q17.1.Digest, q17.1.Sums, q17.1.Session, q17.1.Num, q17.1.Op, q17.1.Reply⟩ : api_Say), ra203.2.s))) fun ((rn204, ro205) : Int × wire_Reader) => some (Sum.inr (Sum.inr (Sum.inr (Sum.inr (Sum.inr (Sum.inr (Sum.inr (Sum.inr (Sum.inr (Sum.inr (rn204, ro205)))))))))))) fun ((rn198, ro199) : Int × wire_Reader) => some (Sum.inr (Sum.inr (Sum.inr (Sum.inr (Sum.inr (Sum.inr (Sum.inr (Sum.inr (Sum.inr (Sum.inr (rn198, ro199)))))))))))) fun ((rn192, ro193) : Int × wire_Reader) => some (Sum.inr (Sum.inr (Sum.inr (Sum.inr (Sum.inr (Sum.inr (Sum.inr (Sum.inr (Sum.inr (Sum.inr (rn192, ro193))))))))))) else Option.bind (if (q17.1.Kind == 12) then (wire_Reader_Num (⟨q17.2⟩ : wire_Reader) 18446744073709551615).bind fun r219 => sm r219 (fun (ra221 : UInt64 × wire_Reader) => (wire_Reader_Num ra221.2 18446744073709551615).bind fun r225 => sm r225 (fun (ra227 : UInt64 × wire_Reader) => (wire_Reader_Bytes ra227.2 32).bind fun r231 => sm r231 (fun (ra233 : Str × wire_Reader) => Option.bind (say_take_l0 17 0 q17.1.Sums ra233.2.s) fun (p237 : (List Str × Str) ⊕ ((api_Say × Str) ⊕ ((api_Say × Str) ⊕ ((api_Say × Str) ⊕ ((api_Say × Str) ⊕ ((api_Say × Str) ⊕ ((api_Say × Str) ⊕ ((api_Say × Str) ⊕ ((api_Say × Str) ⊕ ((api_Say × Str) ⊕ ((api_Say × Str) ⊕ ((api_Say × wire_Reader) ⊕ (Int × wire_Reader))))))))))))) => (match p237 with | Sum.inl q238 => some (Sum.inl ((⟨q17.1.Kind, q17.1.View, q17.1.Value, q17.1.Ballot, q17.1.Promise, ra227.1, q17.1.Done, ra221.1, q17.1.Records, q17.1.Piece, ra233.1, q238.1, q17.1.Session, q17.1.Num, q17.1.Op, q17.1.Reply⟩ : api_Say), q238.2)) | Sum.inr r => some r)) fun ((rn234, ro235) : Int × wire_Reader) => some (Sum.inr (Sum.inr (Sum.inr (Sum.inr (Sum.inr (Sum.inr (Sum.inr (Sum.inr (Sum.inr (Sum.inr (Sum.inr (rn234, ro235))))))))))))) fun ((rn228, ro229) : Int × wire_Reader) => some (Sum.inr (Sum.inr (Sum.inr (Sum.inr (Sum.inr (Sum.inr (Sum.inr (Sum.inr (Sum.inr (Sum.inr (Sum.inr (rn228, ro229))))))))))))) fun ((rn222, ro223) : Int × wire_Reader) => some (Sum.inr (Sum.inr (Sum.inr (Sum.inr (Sum.inr (Sum.inr (Sum.inr (Sum.inr (Sum.inr (Sum.inr (Sum.inr (rn222, ro223)))))))))))) else Option.bind (if (q17.1.Kind == 13) then (wire_Reader_Num (⟨q17.2⟩ : wire_Reader) 18446744073709551615).bind fun r269 => sm r269 (fun (ra271 : UInt64 × wire_Reader) => (wire_Reader_Num ra271.2 18446744073709551615).bind fun r275 => sm r275 (fun (ra277 : UInt64 × wire_Reader) => (op_Take ra277.2).bind fun r281 => sm r281 (fun (ra283 : api_Op × wire_Reader) => some (Sum.inl ((⟨q17.1.Kind, q17.1.View, q17.1.Value, q17.1.Ballot, q17.1.Promise, q17.1.Seq, q17.1.Done, q17.1.Life, q17.1.Records, q17.1.Piece, q17.1.Digest, q17.1.Sums, ra271.1, ra277.1, ra283.1, q17.1.Reply⟩ : api_Say), ra283.2.s))) fun ((rn284, ro285) : Int × wire_Reader) => some (Sum.inr (Sum.inr (Sum.inr (Sum.inr (Sum.inr (Sum.inr (Sum.inr (Sum.inr (Sum.inr (Sum.inr (Sum.inr (Sum.inr (rn284, ro285)))))))))))))) fun ((rn278, ro279) : Int × wire_Reader) => some (Sum.inr (Sum.inr (Sum.inr (Sum.inr (Sum.inr (Sum.inr (Sum.inr (Sum.inr (Sum.inr (Sum.inr (Sum.inr (Sum.inr (rn278, ro279)))))))))))))) fun ((rn272, ro273) : Int × wire_Reader) => some (Sum.inr (Sum.inr (Sum.inr (Sum.inr (Sum.inr (Sum.inr (Sum.inr (Sum.inr (Sum.inr (Sum.inr (Sum.inr (Sum.inr (rn272, ro273))))))))))))) else Option.bind (if (q17.1.Kind == 14) then (wire_Reader_Num (⟨q17.2⟩ : wire_Reader) 18446744073709551615).bind fun r294 => sm r294 (fun (ra296 : UInt64 × wire_Reader) => (wire_Reader_Num ra296.2 18446744073709551615).bind fun r300 => sm r300 (fun (ra302 : UInt64 × wire_Reader) => (wire_Reader_Num ra302.2 18446744073709551615).bind fun r306 => sm r306 (fun (ra308 : UInt64 × wire_Reader) => (op_TakeReply ra308.2).bind fun r312 => sm r312 (fun (ra314 : api_Reply × wire_Reader) => some (Sum.inl ((⟨q17.1.Kind, q17.1.View, q17.1.Value, q17.1.Ballot, q17.1.Promise, ra308.1, q17.1.Done, q17.1.Life, q17.1.Records, q17.1.Piece, q17.1.Digest, q17.1.Sums, ra296.1, ra302.1, q17.1.Op, ra314.1⟩ : api_Say), ra314.2.s))) fun ((rn315, ro316) : Int × wire_Reader) => some (Sum.inr (Sum.inr (Sum.inr (Sum.inr (Sum.inr (Sum.inr (Sum.inr (Sum.inr (Sum.inr (Sum.inr (Sum.inr (Sum.inr (Sum.inr (rn315, ro316))))))))))))))) fun ((rn309, ro310) : Int × wire_Reader) => some (Sum.inr (Sum.inr (Sum.inr (Sum.inr (Sum.inr (Sum.inr (Sum.inr (Sum.inr (Sum.inr (Sum.inr (Sum.inr (Sum.inr (Sum.inr (rn309, ro310))))))))))))))) fun ((rn303, ro304) : Int × wire_Reader) => some (Sum.inr (Sum.inr (Sum.inr (Sum.inr (Sum.inr (Sum.inr (Sum.inr (Sum.inr (Sum.inr (Sum.inr (Sum.inr (Sum.inr (Sum.inr (rn303, ro304))))))))))))))) fun ((rn297, ro298) : Int × wire_Reader) => some (Sum.inr (Sum.inr (Sum.inr (Sum.inr (Sum.inr (Sum.inr (Sum.inr (Sum.inr (Sum.inr (Sum.inr (Sum.inr (Sum.inr (Sum.inr (rn297, ro298)))))))))))))) else some (Sum.inl (q17.1, q17.2))) fun (p287 : (api_Say × Str) ⊕ ((api_Say × Str) ⊕ ((api_Say × Str) ⊕ ((api_Say × Str) ⊕ ((api_Say × Str) ⊕ ((api_Say × Str) ⊕ ((api_Say × Str) ⊕ ((api_Say × Str) ⊕ ((api_Say × Str) ⊕ ((api_Say × Str) ⊕ ((api_Say × Str) ⊕ ((api_Say × Str) ⊕ ((api_Say × wire_Reader) ⊕ (Int × wire_Reader)))))))))))))) => (match p287 with | Sum.inl q288 => some (Sum.inl (q288.1, q288.2)) | Sum.inr r => some r)) fun (p262 : (api_Say × Str) ⊕ ((api_Say × Str) ⊕ ((api_Say × Str) ⊕ ((api_Say × Str) ⊕ ((api_Say × Str) ⊕ ((api_Say × Str) ⊕ ((api_Say × Str) ⊕ ((api_Say × Str) ⊕ ((api_Say × Str) ⊕ ((api_Say × Str) ⊕ ((api_Say × Str) ⊕ ((api_Say × wire_Reader) ⊕ (Int × wire_Reader))))))))))))) => (match p262 with | Sum.inl q263 => some (Sum.inl (q263.1, q263.2)) | Sum.inr r => some r)) fun (p209 : (api_Say × Str) ⊕ ((api_Say × Str) ⊕ ((api_Say × Str) ⊕ ((api_Say × Str) ⊕ ((api_Say × Str) ⊕ ((api_Say × Str) ⊕ ((api_Say × Str) ⊕ ((api_Say × Str) ⊕ ((api_Say × Str) ⊕ ((api_Say × Str) ⊕ ((api_Say × wire_Reader) ⊕ (Int × wire_Reader)))))))))))) => (match p209 with | Sum.inl q210 => some (Sum.inl (q210.1, q210.2)) | Sum.inr r => some r)) fun (p179 : (api_Say × Str) ⊕ ((api_Say × Str) ⊕ ((api_Say × Str) ⊕ ((api_Say × Str) ⊕ ((api_Say × Str) ⊕ ((api_Say × Str) ⊕ ((api_Say × Str) ⊕ ((api_Say × Str) ⊕ ((api_Say × Str) ⊕ ((api_Say × wire_Reader) ⊕ (Int × wire_Reader))))))))))) => (match p179 with | Sum.inl q180 => some (Sum.inl (q180.1, q180.2)) | Sum.inr r => some r)) fun (p151 : (api_Say × Str) ⊕ ((api_Say × Str) ⊕ ((api_Say × Str) ⊕ ((api_Say × Str) ⊕ ((api_Say × Str) ⊕ ((api_Say × Str) ⊕ ((api_Say × Str) ⊕ ((api_Say × Str) ⊕ ((api_Say × wire_Reader) ⊕ (Int × wire_Reader)))))))))) => (match p151 with | Sum.inl q152 => some (Sum.inl (q152.1, q152.2)) | Sum.inr r => some r)) fun (p135 : (api_Say × Str) ⊕ ((api_Say × Str) ⊕ ((api_Say × Str) ⊕ ((api_Say × Str) ⊕ ((api_Say × Str) ⊕ ((api_Say × Str) ⊕ ((api_Say × Str) ⊕ ((api_Say × wire_Reader) ⊕ (Int × wire_Reader))))))))) => (match p135 with | Sum.inl q136 => some (Sum.inl (q136.1, q136.2)) | Sum.inr r => some r)) fun (p119 : (api_Say × Str) ⊕ ((api_Say × Str) ⊕ ((api_Say × Str) ⊕ ((api_Say × Str) ⊕ ((api_Say × Str) ⊕ ((api_Say × Str) ⊕ ((api_Say × wire_Reader) ⊕ (Int × wire_Reader)))))))) => (match p119 with | Sum.inl q120 => some (Sum.inl (q120.1, q120.2)) | Sum.inr r => some r)) fun (p96 : (api_Say × Str) ⊕ ((api_Say × Str) ⊕ ((api_Say × Str) ⊕ ((api_Say × Str) ⊕ ((api_Say × Str) ⊕ ((api_Say × wire_Reader) ⊕ (Int × wire_Reader))))))) => (match p96 with | Sum.inl q97 => some (Sum.inl (q97.1, q97.2)) | Sum.inr r => some r)) fun (p74 : (api_Say × Str) ⊕ ((api_Say × Str) ⊕ ((api_Say × Str) ⊕ ((api_Say × Str) ⊕ ((api_Say × wire_Reader) ⊕ (Int × wire_Reader)))))) => (match p74 with | Sum.inl q75 => some (Sum.inl (q75.1, q75.2)) | Sum.inr r => some r)) fun (p48 : (api_Say × Str) ⊕ ((api_Say × Str) ⊕ ((api_Say × Str) ⊕ ((api_Say × wire_Reader) ⊕ (Int × wire_Reader))))) => (match p48 with | Sum.inl q49 => some (Sum.inl (q49.1, q49.2)) | Sum.inr r => some r)) fun (p32 : (api_Say × Str) ⊕ ((api_Say × Str) ⊕ ((api_Say × wire_Reader) ⊕ (Int × wire_Reader)))) => (match p32 with | Sum.inl q33 => some (Sum.inl (q33.1, q33.2)) | Sum.inr r => some r)) fun (p24 : (api_Say × Str) ⊕ ((api_Say × wire_Reader) ⊕ (Int × wire_Reader))) => (match p24 with | Sum.inl q25 => some (Sum.inl (q25.1, (⟨q25.2⟩ : wire_Reader))) | Sum.inr r => some r) | Sum.inr r => some r)) fun ((rn13, ro14) : Int × Unit) => some (Sum.inr (rn13, (⟨t1⟩ : wire_Reader)))

theorem say_k1 (s t1 p1 : Str) (hs : s.length ≤ 2600) (e1 : s = p1 ++ t1) (q1 : (1 : UInt64) ≤ 15 ∧ p1 = enc 11 (1 : UInt64).toNat) :
    Rd (sayB (1 : UInt64) t1) t1 (fun y q => say_Put y = some (p1 ++ q) ∧ y.Records.length ≤ 16 ∧ y.Sums.length ≤ 16) := by
  have L1 := congrArg List.length e1
  unfold sayB
  rw [ltq, show i64 (((1 : UInt64).toNat : Nat) : Int) = 1 by decide]
  refine rd_must fun _ => ?_
  rw [if_neg (by decide), Option.bind_some]
  dsimp only
  rw [if_neg (by decide), if_neg (by decide), if_neg (by decide), Option.bind_some, if_neg (by decide), if_neg (by decide), if_neg (by decide), if_neg (by decide), if_neg (by decide), if_neg (by decide), if_neg (by decide), if_neg (by decide), if_neg (by decide)]
  (try simp only [ge0] at L1)
  refine .inl ⟨_, _, [], rfl, rfl, ?_⟩
  refine ⟨?_, (by simp), (by simp)⟩
  show say_Put _ = some _
  unfold say_Put
  dsimp only
  rw [show toW (1 : Int) = (1 : UInt64) by decide, num_c, ← q1.2, Option.bind_some, if_neg (by decide), Option.bind_some, if_neg (by decide), if_neg (by decide), if_neg (by decide), Option.bind_some, if_neg (by decide), if_neg (by decide), if_neg (by decide), if_neg (by decide), if_neg (by decide), if_neg (by decide), if_neg (by decide), if_neg (by decide), if_neg (by decide)]
  simp only [Option.bind_some, List.append_nil]
theorem say_k2 (s t1 p1 : Str) (hs : s.length ≤ 2600) (e1 : s = p1 ++ t1) (q1 : (2 : UInt64) ≤ 15 ∧ p1 = enc 11 (2 : UInt64).toNat) :
    Rd (sayB (2 : UInt64) t1) t1 (fun y q => say_Put y = some (p1 ++ q) ∧ y.Records.length ≤ 16 ∧ y.Sums.length ≤ 16) := by
  have L1 := congrArg List.length e1
  unfold sayB
  rw [ltq, show i64 (((2 : UInt64).toNat : Nat) : Int) = 2 by decide]
  refine rd_must fun _ => ?_
  rw [if_pos (by decide)]
  rcases rd_view t1 with ⟨v, t2, p2, f2, e2, q2⟩ | ⟨e, o, f2, he⟩
  case' inr => rw [f2, Option.bind_some]; exact .inr ⟨e, o, rfl, he⟩
  rw [f2, Option.bind_some]
  dsimp only [sm]
  rw [Option.bind_some]
  dsimp only
  rw [if_neg (by decide), if_neg (by decide), if_neg (by decide), Option.bind_some, if_neg (by decide), if_neg (by decide), if_neg (by decide), if_neg (by decide), if_neg (by decide), if_neg (by decide), if_neg (by decide), if_neg (by decide), if_neg (by decide)]
  have Ke2 := congrArg List.length e2
  simp only [ge0] at Ke2
  (try simp only [ge0] at L1)
  refine .inl ⟨_, _, p2, rfl, by rw [e2]; (try simp only [List.append_assoc]), ?_⟩
  refine ⟨?_, (by simp), (by simp)⟩
  show say_Put _ = some _
  unfold say_Put
  dsimp only
  rw [show toW (2 : Int) = (2 : UInt64) by decide, num_c, ← q1.2, Option.bind_some, if_pos (by decide), q2, Option.bind_some, if_pos (by (try simp only [ge0]); simp only [maxS]; omega), Option.bind_some, if_neg (by decide), if_neg (by decide), if_neg (by decide), Option.bind_some, if_neg (by decide), if_neg (by decide), if_neg (by decide), if_neg (by decide), if_neg (by decide), if_neg (by decide), if_neg (by decide), if_neg (by decide), if_neg (by decide)]
  simp only [Option.bind_some, List.append_assoc, List.append_nil]
theorem say_k3 (s t1 p1 : Str) (hs : s.length ≤ 2600) (e1 : s = p1 ++ t1) (q1 : (3 : UInt64) ≤ 15 ∧ p1 = enc 11 (3 : UInt64).toNat) :
    Rd (sayB (3 : UInt64) t1) t1 (fun y q => say_Put y = some (p1 ++ q) ∧ y.Records.length ≤ 16 ∧ y.Sums.length ≤ 16) := by
  have L1 := congrArg List.length e1
  unfold sayB
  rw [ltq, show i64 (((3 : UInt64).toNat : Nat) : Int) = 3 by decide]
  refine rd_must fun _ => ?_
  rw [if_pos (by decide)]
  rcases rd_view t1 with ⟨v, t2, p2, f2, e2, q2⟩ | ⟨e, o, f2, he⟩
  case' inr => rw [f2, Option.bind_some]; exact .inr ⟨e, o, rfl, he⟩
  rw [f2, Option.bind_some]
  dsimp only [sm]
  rw [Option.bind_some]
  dsimp only
  rw [if_pos (by decide)]
  rcases rd_num t2 18446744073709551615 with ⟨x3, t3, p3, f3, e3, q3⟩ | ⟨e, o, f3, he⟩
  case' inr => rw [f3, Option.bind_some]; exact .inr ⟨e, o, rfl, he⟩
  rw [f3, Option.bind_some]
  dsimp only [sm]
  have Ke2 := congrArg List.length e2
  have Ke3 := congrArg List.length e3
  simp only [ge0] at Ke2 Ke3
  (try simp only [ge0] at L1)
  refine .inl ⟨_, _, p2 ++ p3, rfl, by rw [e2, e3]; (try simp only [List.append_assoc]), ?_⟩
  refine ⟨?_, (by simp), (by simp)⟩
  show say_Put _ = some _
  unfold say_Put
  dsimp only
  rw [show toW (3 : Int) = (3 : UInt64) by decide, num_c, ← q1.2, Option.bind_some, if_pos (by decide), q2, Option.bind_some, if_pos (by (try simp only [ge0]); simp only [maxS]; omega), Option.bind_some, if_pos (by decide), num_c, ← q3.2, Option.bind_some, if_pos (by (try simp only [ge0]); simp only [maxS]; omega)]
  simp only [Option.bind_some, List.append_assoc, List.append_nil]
theorem say_k4 (s t1 p1 : Str) (hs : s.length ≤ 2600) (e1 : s = p1 ++ t1) (q1 : (4 : UInt64) ≤ 15 ∧ p1 = enc 11 (4 : UInt64).toNat) :
    Rd (sayB (4 : UInt64) t1) t1 (fun y q => say_Put y = some (p1 ++ q) ∧ y.Records.length ≤ 16 ∧ y.Sums.length ≤ 16) := by
  have L1 := congrArg List.length e1
  unfold sayB
  rw [ltq, show i64 (((4 : UInt64).toNat : Nat) : Int) = 4 by decide]
  refine rd_must fun _ => ?_
  rw [if_pos (by decide)]
  rcases rd_view t1 with ⟨v, t2, p2, f2, e2, q2⟩ | ⟨e, o, f2, he⟩
  case' inr => rw [f2, Option.bind_some]; exact .inr ⟨e, o, rfl, he⟩
  rw [f2, Option.bind_some]
  dsimp only [sm]
  rw [Option.bind_some]
  dsimp only
  rw [if_neg (by decide), if_neg (by decide), if_pos (by decide), Option.bind_some, if_pos (by decide)]
  rcases rd_num t2 18446744073709551615 with ⟨x3, t3, p3, f3, e3, q3⟩ | ⟨e, o, f3, he⟩
  case' inr => rw [f3, Option.bind_some]; exact .inr ⟨e, o, rfl, he⟩
  rw [f3, Option.bind_some]
  dsimp only [sm]
  have Me2 := congrArg List.length e2
  have Me3 := congrArg List.length e3
  simp only [ge0] at L1 Me2 Me3
  rcases rd_promise t3 (by omega) with ⟨x4, t4, p4, f4, e4, q4⟩ | ⟨e, o, f4, he⟩
  case' inr => rw [f4, Option.bind_some]; exact .inr ⟨e, o, rfl, he⟩
  rw [f4, Option.bind_some]
  dsimp only [sm]
  have Ke2 := congrArg List.length e2
  have Ke3 := congrArg List.length e3
  have Ke4 := congrArg List.length e4
  simp only [ge0] at Ke2 Ke3 Ke4
  (try simp only [ge0] at L1)
  refine .inl ⟨_, _, p2 ++ (p3 ++ p4), rfl, by rw [e2, e3, e4]; (try simp only [List.append_assoc]), ?_⟩
  refine ⟨?_, (by simp), (by simp)⟩
  show say_Put _ = some _
  unfold say_Put
  dsimp only
  rw [show toW (4 : Int) = (4 : UInt64) by decide, num_c, ← q1.2, Option.bind_some, if_pos (by decide), q2, Option.bind_some, if_pos (by (try simp only [ge0]); simp only [maxS]; omega), Option.bind_some, if_neg (by decide), if_neg (by decide), if_pos (by decide), Option.bind_some, if_pos (by decide), num_c, ← q3.2, Option.bind_some, q4, Option.bind_some, if_pos (by (try simp only [ge0]); simp only [maxS]; omega), if_pos (by (try simp only [ge0]); simp only [maxS]; omega)]
  simp only [Option.bind_some, List.append_assoc, List.append_nil]
theorem say_k5 (s t1 p1 : Str) (hs : s.length ≤ 2600) (e1 : s = p1 ++ t1) (q1 : (5 : UInt64) ≤ 15 ∧ p1 = enc 11 (5 : UInt64).toNat) :
    Rd (sayB (5 : UInt64) t1) t1 (fun y q => say_Put y = some (p1 ++ q) ∧ y.Records.length ≤ 16 ∧ y.Sums.length ≤ 16) := by
  have L1 := congrArg List.length e1
  unfold sayB
  rw [ltq, show i64 (((5 : UInt64).toNat : Nat) : Int) = 5 by decide]
  refine rd_must fun _ => ?_
  rw [if_pos (by decide)]
  rcases rd_view t1 with ⟨v, t2, p2, f2, e2, q2⟩ | ⟨e, o, f2, he⟩
  case' inr => rw [f2, Option.bind_some]; exact .inr ⟨e, o, rfl, he⟩
  rw [f2, Option.bind_some]
  dsimp only [sm]
  rw [Option.bind_some]
  dsimp only
  rw [if_neg (by decide), if_pos (by decide)]
  rcases rd_num t2 18446744073709551615 with ⟨x3, t3, p3, f3, e3, q3⟩ | ⟨e, o, f3, he⟩
  case' inr => rw [f3, Option.bind_some]; exact .inr ⟨e, o, rfl, he⟩
  rw [f3, Option.bind_some]
  dsimp only [sm]
  rcases rd_view t3 with ⟨x4, t4, p4, f4, e4, q4⟩ | ⟨e, o, f4, he⟩
  case' inr => rw [f4, Option.bind_some]; exact .inr ⟨e, o, rfl, he⟩
  rw [f4, Option.bind_some]
  dsimp only [sm]
  have Ke2 := congrArg List.length e2
  have Ke3 := congrArg List.length e3
  have Ke4 := congrArg List.length e4
  simp only [ge0] at Ke2 Ke3 Ke4
  (try simp only [ge0] at L1)
  refine .inl ⟨_, _, p2 ++ (p3 ++ p4), rfl, by rw [e2, e3, e4]; (try simp only [List.append_assoc]), ?_⟩
  refine ⟨?_, (by simp), (by simp)⟩
  show say_Put _ = some _
  unfold say_Put
  dsimp only
  rw [show toW (5 : Int) = (5 : UInt64) by decide, num_c, ← q1.2, Option.bind_some, if_pos (by decide), q2, Option.bind_some, if_pos (by (try simp only [ge0]); simp only [maxS]; omega), Option.bind_some, if_neg (by decide), if_pos (by decide), num_c, ← q3.2, Option.bind_some, q4, Option.bind_some, if_pos (by (try simp only [ge0]); simp only [maxS]; omega), if_pos (by (try simp only [ge0]); simp only [maxS]; omega)]
  simp only [Option.bind_some, List.append_assoc, List.append_nil]
theorem say_k6 (s t1 p1 : Str) (hs : s.length ≤ 2600) (e1 : s = p1 ++ t1) (q1 : (6 : UInt64) ≤ 15 ∧ p1 = enc 11 (6 : UInt64).toNat) :
    Rd (sayB (6 : UInt64) t1) t1 (fun y q => say_Put y = some (p1 ++ q) ∧ y.Records.length ≤ 16 ∧ y.Sums.length ≤ 16) := by
  have L1 := congrArg List.length e1
  unfold sayB
  rw [ltq, show i64 (((6 : UInt64).toNat : Nat) : Int) = 6 by decide]
  refine rd_must fun _ => ?_
  rw [if_pos (by decide)]
  rcases rd_view t1 with ⟨v, t2, p2, f2, e2, q2⟩ | ⟨e, o, f2, he⟩
  case' inr => rw [f2, Option.bind_some]; exact .inr ⟨e, o, rfl, he⟩
  rw [f2, Option.bind_some]
  dsimp only [sm]
  rw [Option.bind_some]
  dsimp only
  rw [if_neg (by decide), if_neg (by decide), if_neg (by decide), Option.bind_some, if_pos (by decide)]
  rcases rd_num t2 18446744073709551615 with ⟨x3, t3, p3, f3, e3, q3⟩ | ⟨e, o, f3, he⟩
  case' inr => rw [f3, Option.bind_some]; exact .inr ⟨e, o, rfl, he⟩
  rw [f3, Option.bind_some]
  dsimp only [sm]
  have Me2 := congrArg List.length e2
  have Me3 := congrArg List.length e3
  simp only [ge0] at L1 Me2 Me3
  rcases rd_promise t3 (by omega) with ⟨x4, t4, p4, f4, e4, q4⟩ | ⟨e, o, f4, he⟩
  case' inr => rw [f4, Option.bind_some]; exact .inr ⟨e, o, rfl, he⟩
  rw [f4, Option.bind_some]
  dsimp only [sm]
  have Ke2 := congrArg List.length e2
  have Ke3 := congrArg List.length e3
  have Ke4 := congrArg List.length e4
  simp only [ge0] at Ke2 Ke3 Ke4
  (try simp only [ge0] at L1)
  refine .inl ⟨_, _, p2 ++ (p3 ++ p4), rfl, by rw [e2, e3, e4]; (try simp only [List.append_assoc]), ?_⟩
  refine ⟨?_, (by simp), (by simp)⟩
  show say_Put _ = some _
  unfold say_Put
  dsimp only
  rw [show toW (6 : Int) = (6 : UInt64) by decide, num_c, ← q1.2, Option.bind_some, if_pos (by decide), q2, Option.bind_some, if_pos (by (try simp only [ge0]); simp only [maxS]; omega), Option.bind_some, if_neg (by decide), if_neg (by decide), if_neg (by decide), Option.bind_some, if_pos (by decide), num_c, ← q3.2, Option.bind_some, q4, Option.bind_some, if_pos (by (try simp only [ge0]); simp only [maxS]; omega), if_pos (by (try simp only [ge0]); simp only [maxS]; omega)]
  simp only [Option.bind_some, List.append_assoc, List.append_nil]
theorem say_k7 (s t1 p1 : Str) (hs : s.length ≤ 2600) (e1 : s = p1 ++ t1) (q1 : (7 : UInt64) ≤ 15 ∧ p1 = enc 11 (7 : UInt64).toNat) :
    Rd (sayB (7 : UInt64) t1) t1 (fun y q => say_Put y = some (p1 ++ q) ∧ y.Records.length ≤ 16 ∧ y.Sums.length ≤ 16) := by
  have L1 := congrArg List.length e1
  unfold sayB
  rw [ltq, show i64 (((7 : UInt64).toNat : Nat) : Int) = 7 by decide]
  refine rd_must fun _ => ?_
  rw [if_pos (by decide)]
  rcases rd_view t1 with ⟨v, t2, p2, f2, e2, q2⟩ | ⟨e, o, f2, he⟩
  case' inr => rw [f2, Option.bind_some]; exact .inr ⟨e, o, rfl, he⟩
  rw [f2, Option.bind_some]
  dsimp only [sm]
  rw [Option.bind_some]
  dsimp only
  rw [if_neg (by decide), if_neg (by decide), if_neg (by decide), Option.bind_some, if_neg (by decide), if_pos (by decide)]
  rcases rd_num t2 18446744073709551615 with ⟨x3, t3, p3, f3, e3, q3⟩ | ⟨e, o, f3, he⟩
  case' inr => rw [f3, Option.bind_some]; exact .inr ⟨e, o, rfl, he⟩
  rw [f3, Option.bind_some]
  dsimp only [sm]
  have Me2 := congrArg List.length e2
  have Me3 := congrArg List.length e3
  simp only [ge0] at L1 Me2 Me3
  rcases rd_records t3 (by omega) with ⟨x4, t4, p4, f4, e4, q4⟩ | ⟨e, o, f4, he⟩
  case' inr => rw [f4, Option.bind_some]; exact .inr ⟨e, o, rfl, he⟩
  rw [f4, Option.bind_some]
  dsimp only [sm]
  have Ke2 := congrArg List.length e2
  have Ke3 := congrArg List.length e3
  have Ke4 := congrArg List.length e4
  simp only [ge0] at Ke2 Ke3 Ke4
  (try simp only [ge0] at L1)
  refine .inl ⟨_, _, p2 ++ (p3 ++ p4), rfl, by rw [e2, e3, e4]; (try simp only [List.append_assoc]), ?_⟩
  refine ⟨?_, (by obtain ⟨_, _, _, h⟩ := q4; exact h), (by simp)⟩
  show say_Put _ = some _
  unfold say_Put
  dsimp only
  obtain ⟨r4, hp4, hr4, hl4⟩ := q4
  have hr4l := congrArg List.length hp4
  simp only [ge0] at hr4l
  have R4 := put_list x4 r4 (by omega) hr4 (by omega)
  rw [← hp4] at R4
  rw [show toW (7 : Int) = (7 : UInt64) by decide, num_c, ← q1.2, Option.bind_some, if_pos (by decide), q2, Option.bind_some, if_pos (by (try simp only [ge0]); simp only [maxS]; omega), Option.bind_some, if_neg (by decide), if_neg (by decide), if_neg (by decide), Option.bind_some, if_neg (by decide), if_pos (by decide), num_c, ← q3.2, Option.bind_some, R4, Option.bind_some, if_pos (by (try simp only [ge0]); simp only [maxS]; omega), if_pos (by (try simp only [ge0]); simp only [maxS]; omega)]
  simp only [Option.bind_some, List.append_assoc, List.append_nil]
theorem say_k8 (s t1 p1 : Str) (hs : s.length ≤ 2600) (e1 : s = p1 ++ t1) (q1 : (8 : UInt64) ≤ 15 ∧ p1 = enc 11 (8 : UInt64).toNat) :
    Rd (sayB (8 : UInt64) t1) t1 (fun y q => say_Put y = some (p1 ++ q) ∧ y.Records.length ≤ 16 ∧ y.Sums.length ≤ 16) := by
  have L1 := congrArg List.length e1
  unfold sayB
  rw [ltq, show i64 (((8 : UInt64).toNat : Nat) : Int) = 8 by decide]
  refine rd_must fun _ => ?_
  rw [if_pos (by decide)]
  rcases rd_view t1 with ⟨v, t2, p2, f2, e2, q2⟩ | ⟨e, o, f2, he⟩
  case' inr => rw [f2, Option.bind_some]; exact .inr ⟨e, o, rfl, he⟩
  rw [f2, Option.bind_some]
  dsimp only [sm]
  rw [Option.bind_some]
  dsimp only
  rw [if_neg (by decide), if_neg (by decide), if_neg (by decide), Option.bind_some, if_neg (by decide), if_neg (by decide), if_pos (by decide)]
  rcases rd_num t2 18446744073709551615 with ⟨x3, t3, p3, f3, e3, q3⟩ | ⟨e, o, f3, he⟩
  case' inr => rw [f3, Option.bind_some]; exact .inr ⟨e, o, rfl, he⟩
  rw [f3, Option.bind_some]
  dsimp only [sm]
  have Ke2 := congrArg List.length e2
  have Ke3 := congrArg List.length e3
  simp only [ge0] at Ke2 Ke3
  (try simp only [ge0] at L1)
  refine .inl ⟨_, _, p2 ++ p3, rfl, by rw [e2, e3]; (try simp only [List.append_assoc]), ?_⟩
  refine ⟨?_, (by simp), (by simp)⟩
  show say_Put _ = some _
  unfold say_Put
  dsimp only
  rw [show toW (8 : Int) = (8 : UInt64) by decide, num_c, ← q1.2, Option.bind_some, if_pos (by decide), q2, Option.bind_some, if_pos (by (try simp only [ge0]); simp only [maxS]; omega), Option.bind_some, if_neg (by decide), if_neg (by decide), if_neg (by decide), Option.bind_some, if_neg (by decide), if_neg (by decide), if_pos (by decide), num_c, ← q3.2, Option.bind_some, if_pos (by (try simp only [ge0]); simp only [maxS]; omega)]
  simp only [Option.bind_some, List.append_assoc, List.append_nil]
theorem say_k9 (s t1 p1 : Str) (hs : s.length ≤ 2600) (e1 : s = p1 ++ t1) (q1 : (9 : UInt64) ≤ 15 ∧ p1 = enc 11 (9 : UInt64).toNat) :
    Rd (sayB (9 : UInt64) t1) t1 (fun y q => say_Put y = some (p1 ++ q) ∧ y.Records.length ≤ 16 ∧ y.Sums.length ≤ 16) := by
  have L1 := congrArg List.length e1
  unfold sayB
  rw [ltq, show i64 (((9 : UInt64).toNat : Nat) : Int) = 9 by decide]
  refine rd_must fun _ => ?_
  rw [if_pos (by decide)]
  rcases rd_view t1 with ⟨v, t2, p2, f2, e2, q2⟩ | ⟨e, o, f2, he⟩
  case' inr => rw [f2, Option.bind_some]; exact .inr ⟨e, o, rfl, he⟩
  rw [f2, Option.bind_some]
  dsimp only [sm]
  rw [Option.bind_some]
  dsimp only
  rw [if_neg (by decide), if_neg (by decide), if_neg (by decide), Option.bind_some, if_neg (by decide), if_neg (by decide), if_neg (by decide), if_pos (by decide)]
  rcases rd_num t2 18446744073709551615 with ⟨x3, t3, p3, f3, e3, q3⟩ | ⟨e, o, f3, he⟩
  case' inr => rw [f3, Option.bind_some]; exact .inr ⟨e, o, rfl, he⟩
  rw [f3, Option.bind_some]
  dsimp only [sm]
  have Ke2 := congrArg List.length e2
  have Ke3 := congrArg List.length e3
  simp only [ge0] at Ke2 Ke3
  (try simp only [ge0] at L1)
  refine .inl ⟨_, _, p2 ++ p3, rfl, by rw [e2, e3]; (try simp only [List.append_assoc]), ?_⟩
  refine ⟨?_, (by simp), (by simp)⟩
  show say_Put _ = some _
  unfold say_Put
  dsimp only
  rw [show toW (9 : Int) = (9 : UInt64) by decide, num_c, ← q1.2, Option.bind_some, if_pos (by decide), q2, Option.bind_some, if_pos (by (try simp only [ge0]); simp only [maxS]; omega), Option.bind_some, if_neg (by decide), if_neg (by decide), if_neg (by decide), Option.bind_some, if_neg (by decide), if_neg (by decide), if_neg (by decide), if_pos (by decide), num_c, ← q3.2, Option.bind_some, if_pos (by (try simp only [ge0]); simp only [maxS]; omega)]
  simp only [Option.bind_some, List.append_assoc, List.append_nil]
theorem say_k10 (s t1 p1 : Str) (hs : s.length ≤ 2600) (e1 : s = p1 ++ t1) (q1 : (10 : UInt64) ≤ 15 ∧ p1 = enc 11 (10 : UInt64).toNat) :
    Rd (sayB (10 : UInt64) t1) t1 (fun y q => say_Put y = some (p1 ++ q) ∧ y.Records.length ≤ 16 ∧ y.Sums.length ≤ 16) := by
  have L1 := congrArg List.length e1
  unfold sayB
  rw [ltq, show i64 (((10 : UInt64).toNat : Nat) : Int) = 10 by decide]
  refine rd_must fun _ => ?_
  rw [if_pos (by decide)]
  rcases rd_view t1 with ⟨v, t2, p2, f2, e2, q2⟩ | ⟨e, o, f2, he⟩
  case' inr => rw [f2, Option.bind_some]; exact .inr ⟨e, o, rfl, he⟩
  rw [f2, Option.bind_some]
  dsimp only [sm]
  rw [Option.bind_some]
  dsimp only
  rw [if_neg (by decide), if_neg (by decide), if_neg (by decide), Option.bind_some, if_neg (by decide), if_neg (by decide), if_neg (by decide), if_neg (by decide), if_pos (by decide)]
  rcases rd_num t2 18446744073709551615 with ⟨x3, t3, p3, f3, e3, q3⟩ | ⟨e, o, f3, he⟩
  case' inr => rw [f3, Option.bind_some]; exact .inr ⟨e, o, rfl, he⟩
  rw [f3, Option.bind_some]
  dsimp only [sm]
  rcases rd_num t3 18446744073709551615 with ⟨x4, t4, p4, f4, e4, q4⟩ | ⟨e, o, f4, he⟩
  case' inr => rw [f4, Option.bind_some]; exact .inr ⟨e, o, rfl, he⟩
  rw [f4, Option.bind_some]
  dsimp only [sm]
  have Me2 := congrArg List.length e2
  have Me3 := congrArg List.length e3
  have Me4 := congrArg List.length e4
  simp only [ge0] at L1 Me2 Me3 Me4
  rcases rd_piece t4 (by omega) with ⟨x5, t5, p5, f5, e5, q5⟩ | ⟨e, o, f5, he⟩
  case' inr => rw [f5, Option.bind_some]; exact .inr ⟨e, o, rfl, he⟩
  rw [f5, Option.bind_some]
  dsimp only [sm]
  have Ke2 := congrArg List.length e2
  have Ke3 := congrArg List.length e3
  have Ke4 := congrArg List.length e4
  have Ke5 := congrArg List.length e5
  simp only [ge0] at Ke2 Ke3 Ke4 Ke5
  (try simp only [ge0] at L1)
  refine .inl ⟨_, _, p2 ++ (p3 ++ (p4 ++ p5)), rfl, by rw [e2, e3, e4, e5]; (try simp only [List.append_assoc]), ?_⟩
  refine ⟨?_, (by simp), (by simp)⟩
  show say_Put _ = some _
  unfold say_Put
  dsimp only
  rw [show toW (10 : Int) = (10 : UInt64) by decide, num_c, ← q1.2, Option.bind_some, if_pos (by decide), q2, Option.bind_some, if_pos (by (try simp only [ge0]); simp only [maxS]; omega), Option.bind_some, if_neg (by decide), if_neg (by decide), if_neg (by decide), Option.bind_some, if_neg (by decide), if_neg (by decide), if_neg (by decide), if_neg (by decide), if_pos (by decide), num_c, ← q3.2, Option.bind_some, num_c, ← q4.2, Option.bind_some, if_pos (by (try simp only [ge0]); simp only [maxS]; omega), q5, Option.bind_some, if_pos (by (try simp only [ge0]); simp only [maxS]; omega), if_pos (by (try simp only [ge0]); simp only [maxS]; omega)]
  simp only [Option.bind_some, List.append_assoc, List.append_nil]
theorem say_k11 (s t1 p1 : Str) (hs : s.length ≤ 2600) (e1 : s = p1 ++ t1) (q1 : (11 : UInt64) ≤ 15 ∧ p1 = enc 11 (11 : UInt64).toNat) :
    Rd (sayB (11 : UInt64) t1) t1 (fun y q => say_Put y = some (p1 ++ q) ∧ y.Records.length ≤ 16 ∧ y.Sums.length ≤ 16) := by
  have L1 := congrArg List.length e1
  unfold sayB
  rw [ltq, show i64 (((11 : UInt64).toNat : Nat) : Int) = 11 by decide]
  refine rd_must fun _ => ?_
  rw [if_pos (by decide)]
  rcases rd_view t1 with ⟨v, t2, p2, f2, e2, q2⟩ | ⟨e, o, f2, he⟩
  case' inr => rw [f2, Option.bind_some]; exact .inr ⟨e, o, rfl, he⟩
  rw [f2, Option.bind_some]
  dsimp only [sm]
  rw [Option.bind_some]
  dsimp only
  rw [if_neg (by decide), if_neg (by decide), if_neg (by decide), Option.bind_some, if_neg (by decide), if_neg (by decide), if_neg (by decide), if_neg (by decide), if_neg (by decide), if_pos (by decide)]
  rcases rd_num t2 18446744073709551615 with ⟨x3, t3, p3, f3, e3, q3⟩ | ⟨e, o, f3, he⟩
  case' inr => rw [f3, Option.bind_some]; exact .inr ⟨e, o, rfl, he⟩
  rw [f3, Option.bind_some]
  dsimp only [sm]
  rcases rd_num t3 18446744073709551615 with ⟨x4, t4, p4, f4, e4, q4⟩ | ⟨e, o, f4, he⟩
  case' inr => rw [f4, Option.bind_some]; exact .inr ⟨e, o, rfl, he⟩
  rw [f4, Option.bind_some]
  dsimp only [sm]
  rcases rd_num t4 8192 with ⟨x5, t5, p5, f5, e5, q5⟩ | ⟨e, o, f5, he⟩
  case' inr => rw [f5, Option.bind_some]; exact .inr ⟨e, o, rfl, he⟩
  rw [f5, Option.bind_some]
  dsimp only [sm]
  have m82 : (8192 : UInt64).toNat = 8192 := by decide
  have b5 : x5.toNat ≤ 8192 := by have := UInt64.le_iff_toNat_le.1 q5.1; omega
  have w5 := W_back x5 (by omega)
  rw [ltq]
  generalize i64 ((x5.toNat : Nat) : Int) = z5 at w5
  have Ke2 := congrArg List.length e2
  have Ke3 := congrArg List.length e3
  have Ke4 := congrArg List.length e4
  have Ke5 := congrArg List.length e5
  simp only [ge0] at Ke2 Ke3 Ke4 Ke5
  (try simp only [ge0] at L1)
  refine .inl ⟨_, _, p2 ++ (p3 ++ (p4 ++ p5)), rfl, by rw [e2, e3, e4, e5]; (try simp only [List.append_assoc]), ?_⟩
  refine ⟨?_, (by simp), (by simp)⟩
  show say_Put _ = some _
  unfold say_Put
  dsimp only
  rw [show toW (11 : Int) = (11 : UInt64) by decide, num_c, ← q1.2, Option.bind_some, if_pos (by decide), q2, Option.bind_some, if_pos (by (try simp only [ge0]); simp only [maxS]; omega), Option.bind_some, if_neg (by decide), if_neg (by decide), if_neg (by decide), Option.bind_some, if_neg (by decide), if_neg (by decide), if_neg (by decide), if_neg (by decide), if_neg (by decide), if_pos (by decide), num_c, ← q3.2, Option.bind_some, num_c, ← q4.2, Option.bind_some, if_pos (by (try simp only [ge0]); simp only [maxS]; omega), w5, num_c, ← q5.2, Option.bind_some, if_pos (by (try simp only [ge0]); simp only [maxS]; omega), if_pos (by (try simp only [ge0]); simp only [maxS]; omega)]
  simp only [Option.bind_some, List.append_assoc, List.append_nil]
theorem say_k12 (s t1 p1 : Str) (hs : s.length ≤ 2600) (e1 : s = p1 ++ t1) (q1 : (12 : UInt64) ≤ 15 ∧ p1 = enc 11 (12 : UInt64).toNat) :
    Rd (sayB (12 : UInt64) t1) t1 (fun y q => say_Put y = some (p1 ++ q) ∧ y.Records.length ≤ 16 ∧ y.Sums.length ≤ 16) := by
  have L1 := congrArg List.length e1
  unfold sayB
  rw [ltq, show i64 (((12 : UInt64).toNat : Nat) : Int) = 12 by decide]
  refine rd_must fun _ => ?_
  rw [if_pos (by decide)]
  rcases rd_view t1 with ⟨v, t2, p2, f2, e2, q2⟩ | ⟨e, o, f2, he⟩
  case' inr => rw [f2, Option.bind_some]; exact .inr ⟨e, o, rfl, he⟩
  rw [f2, Option.bind_some]
  dsimp only [sm]
  rw [Option.bind_some]
  dsimp only
  rw [if_neg (by decide), if_neg (by decide), if_neg (by decide), Option.bind_some, if_neg (by decide), if_neg (by decide), if_neg (by decide), if_neg (by decide), if_neg (by decide), if_neg (by decide), if_pos (by decide)]
  rcases rd_num t2 18446744073709551615 with ⟨x3, t3, p3, f3, e3, q3⟩ | ⟨e, o, f3, he⟩
  case' inr => rw [f3, Option.bind_some]; exact .inr ⟨e, o, rfl, he⟩
  rw [f3, Option.bind_some]
  dsimp only [sm]
  rcases rd_num t3 18446744073709551615 with ⟨x4, t4, p4, f4, e4, q4⟩ | ⟨e, o, f4, he⟩
  case' inr => rw [f4, Option.bind_some]; exact .inr ⟨e, o, rfl, he⟩
  rw [f4, Option.bind_some]
  dsimp only [sm]
  rcases rd_bytes t4 32 32 rfl with ⟨x5, t5, p5, f5, e5, q5⟩ | ⟨e, o, f5, he⟩
  case' inr => rw [f5, Option.bind_some]; exact .inr ⟨e, o, rfl, he⟩
  rw [f5, Option.bind_some]
  dsimp only [sm]
  rcases sum_loop 17 0 [] t5 [] rfl (by decide) rfl rfl with ⟨x6, t6, p6, f6, e6, q6⟩ | ⟨e, o, f6, he⟩
  case' inr => rw [show say_take_l0 17 0 [] t5 = _ from f6, Option.bind_some]; exact .inr ⟨e, o, rfl, he⟩
  rw [show say_take_l0 17 0 [] t5 = _ from f6, Option.bind_some]
  have Ke2 := congrArg List.length e2
  have Ke3 := congrArg List.length e3
  have Ke4 := congrArg List.length e4
  have Ke5 := congrArg List.length e5
  have Ke6 := congrArg List.length e6
  simp only [ge0] at Ke2 Ke3 Ke4 Ke5 Ke6
  (try simp only [ge0] at L1)
  refine .inl ⟨_, _, p2 ++ (p3 ++ (p4 ++ (p5 ++ p6))), rfl, by rw [e2, e3, e4, e5, e6]; (try simp only [List.append_assoc]), ?_⟩
  refine ⟨?_, (by simp), (Nat.le_of_eq q6.2)⟩
  show say_Put _ = some _
  unfold say_Put
  dsimp only
  rw [show toW (12 : Int) = (12 : UInt64) by decide, num_c, ← q1.2, Option.bind_some, if_pos (by decide), q2, Option.bind_some, if_pos (by (try simp only [ge0]); simp only [maxS]; omega), Option.bind_some, if_neg (by decide), if_neg (by decide), if_neg (by decide), Option.bind_some, if_neg (by decide), if_neg (by decide), if_neg (by decide), if_neg (by decide), if_neg (by decide), if_neg (by decide), if_pos (by decide), num_c, ← q3.2, Option.bind_some, num_c, ← q4.2, Option.bind_some, if_pos (by (try simp only [ge0]); simp only [maxS]; omega), ← q5.1, if_pos (by (try simp only [ge0]); simp only [maxS]; omega), if_pos (by (try simp only [ge0]); simp only [maxS]; omega)]
  have Z := put_sums (⟨12, v, ⟨0, 0, 0, 0, 0, 0⟩, 0, ⟨false, 0, 0, 0, ⟨0, 0, 0, 0, 0, 0⟩, ⟨0, 0, 0, 0, 0, 0⟩⟩, x4, 0, x3, [], ⟨0, 0, [], [], []⟩, p5, x6, 0, 0, ⟨0, [], [], 0, 0⟩, ⟨0, [], 0⟩⟩ : api_Say) (by dsimp only; omega) (((x6.length : Int) - 0).toNat + 1) 0 (p1 ++ p2 ++ (p3 ++ p4 ++ p5)) (by dsimp only; omega) (by dsimp only; omega) (by dsimp only; rw [List.drop_zero, q6.1]; simp only [ge0, List.nil_append]; omega)
  dsimp only at Z
  rw [List.drop_zero, q6.1, List.nil_append] at Z
  rw [show say_Put_l0 _ _ _ 0 = _ from Z, Option.bind_some]
  simp only [Option.bind_some, List.append_assoc, List.append_nil]
theorem say_k13 (s t1 p1 : Str) (hs : s.length ≤ 2600) (e1 : s = p1 ++ t1) (q1 : (13 : UInt64) ≤ 15 ∧ p1 = enc 11 (13 : UInt64).toNat) :
    Rd (sayB (13 : UInt64) t1) t1 (fun y q => say_Put y = some (p1 ++ q) ∧ y.Records.length ≤ 16 ∧ y.Sums.length ≤ 16) := by
  have L1 := congrArg List.length e1
  unfold sayB
  rw [ltq, show i64 (((13 : UInt64).toNat : Nat) : Int) = 13 by decide]
  refine rd_must fun _ => ?_
  rw [if_neg (by decide), Option.bind_some]
  dsimp only
  rw [if_neg (by decide), if_neg (by decide), if_neg (by decide), Option.bind_some, if_neg (by decide), if_neg (by decide), if_neg (by decide), if_neg (by decide), if_neg (by decide), if_neg (by decide), if_neg (by decide), if_pos (by decide)]
  rcases rd_num t1 18446744073709551615 with ⟨x3, t3, p3, f3, e3, q3⟩ | ⟨e, o, f3, he⟩
  case' inr => rw [f3, Option.bind_some]; exact .inr ⟨e, o, rfl, he⟩
  rw [f3, Option.bind_some]
  dsimp only [sm]
  rcases rd_num t3 18446744073709551615 with ⟨x4, t4, p4, f4, e4, q4⟩ | ⟨e, o, f4, he⟩
  case' inr => rw [f4, Option.bind_some]; exact .inr ⟨e, o, rfl, he⟩
  rw [f4, Option.bind_some]
  dsimp only [sm]
  rcases rd_op t4 with ⟨x5, t5, p5, f5, e5, q5⟩ | ⟨e, o, f5, he⟩
  case' inr => rw [f5, Option.bind_some]; exact .inr ⟨e, o, rfl, he⟩
  rw [f5, Option.bind_some]
  dsimp only [sm]
  have Ke3 := congrArg List.length e3
  have Ke4 := congrArg List.length e4
  have Ke5 := congrArg List.length e5
  simp only [ge0] at Ke3 Ke4 Ke5
  (try simp only [ge0] at L1)
  refine .inl ⟨_, _, p3 ++ (p4 ++ p5), rfl, by rw [e3, e4, e5]; (try simp only [List.append_assoc]), ?_⟩
  refine ⟨?_, (by simp), (by simp)⟩
  show say_Put _ = some _
  unfold say_Put
  dsimp only
  rw [show toW (13 : Int) = (13 : UInt64) by decide, num_c, ← q1.2, Option.bind_some, if_neg (by decide), Option.bind_some, if_neg (by decide), if_neg (by decide), if_neg (by decide), Option.bind_some, if_neg (by decide), if_neg (by decide), if_neg (by decide), if_neg (by decide), if_neg (by decide), if_neg (by decide), if_neg (by decide), if_pos (by decide), num_c, ← q3.2, Option.bind_some, num_c, ← q4.2, Option.bind_some, if_pos (by (try simp only [ge0]); simp only [maxS]; omega), q5, Option.bind_some, if_pos (by (try simp only [ge0]); simp only [maxS]; omega), if_pos (by (try simp only [ge0]); simp only [maxS]; omega)]
  simp only [Option.bind_some, List.append_assoc, List.append_nil]
theorem say_k14 (s t1 p1 : Str) (hs : s.length ≤ 2600) (e1 : s = p1 ++ t1) (q1 : (14 : UInt64) ≤ 15 ∧ p1 = enc 11 (14 : UInt64).toNat) :
    Rd (sayB (14 : UInt64) t1) t1 (fun y q => say_Put y = some (p1 ++ q) ∧ y.Records.length ≤ 16 ∧ y.Sums.length ≤ 16) := by
  have L1 := congrArg List.length e1
  unfold sayB
  rw [ltq, show i64 (((14 : UInt64).toNat : Nat) : Int) = 14 by decide]
  refine rd_must fun _ => ?_
  rw [if_pos (by decide)]
  rcases rd_view t1 with ⟨v, t2, p2, f2, e2, q2⟩ | ⟨e, o, f2, he⟩
  case' inr => rw [f2, Option.bind_some]; exact .inr ⟨e, o, rfl, he⟩
  rw [f2, Option.bind_some]
  dsimp only [sm]
  rw [Option.bind_some]
  dsimp only
  rw [if_neg (by decide), if_neg (by decide), if_neg (by decide), Option.bind_some, if_neg (by decide), if_neg (by decide), if_neg (by decide), if_neg (by decide), if_neg (by decide), if_neg (by decide), if_neg (by decide), if_neg (by decide), if_pos (by decide)]
  rcases rd_num t2 18446744073709551615 with ⟨x3, t3, p3, f3, e3, q3⟩ | ⟨e, o, f3, he⟩
  case' inr => rw [f3, Option.bind_some]; exact .inr ⟨e, o, rfl, he⟩
  rw [f3, Option.bind_some]
  dsimp only [sm]
  rcases rd_num t3 18446744073709551615 with ⟨x4, t4, p4, f4, e4, q4⟩ | ⟨e, o, f4, he⟩
  case' inr => rw [f4, Option.bind_some]; exact .inr ⟨e, o, rfl, he⟩
  rw [f4, Option.bind_some]
  dsimp only [sm]
  rcases rd_num t4 18446744073709551615 with ⟨x5, t5, p5, f5, e5, q5⟩ | ⟨e, o, f5, he⟩
  case' inr => rw [f5, Option.bind_some]; exact .inr ⟨e, o, rfl, he⟩
  rw [f5, Option.bind_some]
  dsimp only [sm]
  have Me2 := congrArg List.length e2
  have Me3 := congrArg List.length e3
  have Me4 := congrArg List.length e4
  have Me5 := congrArg List.length e5
  simp only [ge0] at L1 Me2 Me3 Me4 Me5
  rcases rd_reply t5 (by omega) with ⟨x6, t6, p6, f6, e6, q6⟩ | ⟨e, o, f6, he⟩
  case' inr => rw [f6, Option.bind_some]; exact .inr ⟨e, o, rfl, he⟩
  rw [f6, Option.bind_some]
  dsimp only [sm]
  have Ke2 := congrArg List.length e2
  have Ke3 := congrArg List.length e3
  have Ke4 := congrArg List.length e4
  have Ke5 := congrArg List.length e5
  have Ke6 := congrArg List.length e6
  simp only [ge0] at Ke2 Ke3 Ke4 Ke5 Ke6
  (try simp only [ge0] at L1)
  refine .inl ⟨_, _, p2 ++ (p3 ++ (p4 ++ (p5 ++ p6))), rfl, by rw [e2, e3, e4, e5, e6]; (try simp only [List.append_assoc]), ?_⟩
  refine ⟨?_, (by simp), (by simp)⟩
  show say_Put _ = some _
  unfold say_Put
  dsimp only
  rw [show toW (14 : Int) = (14 : UInt64) by decide, num_c, ← q1.2, Option.bind_some, if_pos (by decide), q2, Option.bind_some, if_pos (by (try simp only [ge0]); simp only [maxS]; omega), Option.bind_some, if_neg (by decide), if_neg (by decide), if_neg (by decide), Option.bind_some, if_neg (by decide), if_neg (by decide), if_neg (by decide), if_neg (by decide), if_neg (by decide), if_neg (by decide), if_neg (by decide), if_neg (by decide), if_pos (by decide), num_c, ← q3.2, Option.bind_some, num_c, ← q4.2, Option.bind_some, if_pos (by (try simp only [ge0]); simp only [maxS]; omega), num_c, ← q5.2, Option.bind_some, if_pos (by (try simp only [ge0]); simp only [maxS]; omega), q6, Option.bind_some, if_pos (by (try simp only [ge0]); simp only [maxS]; omega), if_pos (by (try simp only [ge0]); simp only [maxS]; omega)]
  simp only [Option.bind_some, List.append_assoc, List.append_nil]
theorem say_k15 (s t1 p1 : Str) (hs : s.length ≤ 2600) (e1 : s = p1 ++ t1) (q1 : (15 : UInt64) ≤ 15 ∧ p1 = enc 11 (15 : UInt64).toNat) :
    Rd (sayB (15 : UInt64) t1) t1 (fun y q => say_Put y = some (p1 ++ q) ∧ y.Records.length ≤ 16 ∧ y.Sums.length ≤ 16) := by
  have L1 := congrArg List.length e1
  unfold sayB
  rw [ltq, show i64 (((15 : UInt64).toNat : Nat) : Int) = 15 by decide]
  refine rd_must fun _ => ?_
  rw [if_pos (by decide)]
  rcases rd_view t1 with ⟨v, t2, p2, f2, e2, q2⟩ | ⟨e, o, f2, he⟩
  case' inr => rw [f2, Option.bind_some]; exact .inr ⟨e, o, rfl, he⟩
  rw [f2, Option.bind_some]
  dsimp only [sm]
  rw [Option.bind_some]
  dsimp only
  rw [if_neg (by decide), if_neg (by decide), if_neg (by decide), Option.bind_some, if_neg (by decide), if_neg (by decide), if_neg (by decide), if_neg (by decide), if_neg (by decide), if_neg (by decide), if_neg (by decide), if_neg (by decide), if_neg (by decide)]
  have Ke2 := congrArg List.length e2
  simp only [ge0] at Ke2
  (try simp only [ge0] at L1)
  refine .inl ⟨_, _, p2, rfl, by rw [e2]; (try simp only [List.append_assoc]), ?_⟩
  refine ⟨?_, (by simp), (by simp)⟩
  show say_Put _ = some _
  unfold say_Put
  dsimp only
  rw [show toW (15 : Int) = (15 : UInt64) by decide, num_c, ← q1.2, Option.bind_some, if_pos (by decide), q2, Option.bind_some, if_pos (by (try simp only [ge0]); simp only [maxS]; omega), Option.bind_some, if_neg (by decide), if_neg (by decide), if_neg (by decide), Option.bind_some, if_neg (by decide), if_neg (by decide), if_neg (by decide), if_neg (by decide), if_neg (by decide), if_neg (by decide), if_neg (by decide), if_neg (by decide), if_neg (by decide)]
  simp only [Option.bind_some, List.append_assoc, List.append_nil]
theorem rd_say (s : Str) (hs : s.length ≤ 2600) : Rd (say_take ⟨s⟩) s (fun x p => say_Put x = some p ∧ x.Records.length ≤ 16 ∧ x.Sums.length ≤ 16) := by
  unfold say_take
  refine rd_bind (rd_num s _) fun n t1 p1 e1 q1 => ?_
  have m : (15 : UInt64).toNat = 15 := by decide
  have b : n.toNat ≤ 15 := by have := UInt64.le_iff_toNat_le.1 q1.1; omega
  have c : n.toNat = 0 ∨ n.toNat = 1 ∨ n.toNat = 2 ∨ n.toNat = 3 ∨ n.toNat = 4 ∨ n.toNat = 5 ∨ n.toNat = 6 ∨ n.toNat = 7 ∨ n.toNat = 8 ∨ n.toNat = 9 ∨ n.toNat = 10 ∨ n.toNat = 11 ∨ n.toNat = 12 ∨ n.toNat = 13 ∨ n.toNat = 14 ∨ n.toNat = 15 := by omega
  rcases c with h | h | h | h | h | h | h | h | h | h | h | h | h | h | h | h
  · obtain rfl : n = 0 := UInt64.toNat_inj.1 h
    dsimp only
    rw [ltq, show i64 (((0 : UInt64).toNat : Nat) : Int) = 0 by decide]
    exact rd_must fun h => absurd h (by decide)
  · obtain rfl : n = 1 := UInt64.toNat_inj.1 h
    exact say_k1 s t1 p1 hs e1 q1
  · obtain rfl : n = 2 := UInt64.toNat_inj.1 h
    exact say_k2 s t1 p1 hs e1 q1
  · obtain rfl : n = 3 := UInt64.toNat_inj.1 h
    exact say_k3 s t1 p1 hs e1 q1
  · obtain rfl : n = 4 := UInt64.toNat_inj.1 h
    exact say_k4 s t1 p1 hs e1 q1
  · obtain rfl : n = 5 := UInt64.toNat_inj.1 h
    exact say_k5 s t1 p1 hs e1 q1
  · obtain rfl : n = 6 := UInt64.toNat_inj.1 h
    exact say_k6 s t1 p1 hs e1 q1
  · obtain rfl : n = 7 := UInt64.toNat_inj.1 h
    exact say_k7 s t1 p1 hs e1 q1
  · obtain rfl : n = 8 := UInt64.toNat_inj.1 h
    exact say_k8 s t1 p1 hs e1 q1
  · obtain rfl : n = 9 := UInt64.toNat_inj.1 h
    exact say_k9 s t1 p1 hs e1 q1
  · obtain rfl : n = 10 := UInt64.toNat_inj.1 h
    exact say_k10 s t1 p1 hs e1 q1
  · obtain rfl : n = 11 := UInt64.toNat_inj.1 h
    exact say_k11 s t1 p1 hs e1 q1
  · obtain rfl : n = 12 := UInt64.toNat_inj.1 h
    exact say_k12 s t1 p1 hs e1 q1
  · obtain rfl : n = 13 := UInt64.toNat_inj.1 h
    exact say_k13 s t1 p1 hs e1 q1
  · obtain rfl : n = 14 := UInt64.toNat_inj.1 h
    exact say_k14 s t1 p1 hs e1 q1
  · obtain rfl : n = 15 := UInt64.toNat_inj.1 h
    exact say_k15 s t1 p1 hs e1 q1
end Go.Proofs.Ythngfieikhillaa.Pure
