/-
  Facts on the types and functions of this seat's program, by a program of this session's.
-/
import Derived.Test.YtpanhdnglicknaaGreatProg
import Derived.Test.YtpanhdnglicknaaGreatHwC
import Derived.KernelRfl
set_option linter.unusedSimpArgs false
namespace Go.Proofs.YtpanhdnglicknaaGreat
open Go Go.Proofs.YtpanhdnglicknaaGreat.Hw
theorem sc2 : Sc Tryz.prog 2 := ⟨fun _ => by kernel_rfl, fun _ => by kernel_rfl⟩
theorem sc3 : Sc Tryz.prog 3 := ⟨fun _ => by kernel_rfl, fun _ => by kernel_rfl⟩
theorem sc4 : Sc Tryz.prog 4 := ⟨fun _ => by kernel_rfl, fun _ => by kernel_rfl⟩
theorem sc5 : Sc Tryz.prog 5 := ⟨fun _ => by kernel_rfl, fun _ => by kernel_rfl⟩
theorem sc9 : Sc Tryz.prog 9 := ⟨fun _ => by kernel_rfl, fun _ => by kernel_rfl⟩
theorem sc22 : Sc Tryz.prog 22 := ⟨fun _ => by kernel_rfl, fun _ => by kernel_rfl⟩
theorem ag24 : Ag Tryz.prog 24 4 := ⟨fun _ => by kernel_rfl, fun _ => by kernel_rfl⟩
theorem fa24_0 : Fa Tryz.prog 24 0 0 := fun _ _ _ => by kernel_rfl
theorem fa24_1 : Fa Tryz.prog 24 1 1 := fun _ _ _ => by kernel_rfl
theorem fa24_2 : Fa Tryz.prog 24 2 2 := fun _ _ _ => by kernel_rfl
theorem fa24_3 : Fa Tryz.prog 24 3 3 := fun _ _ _ => by kernel_rfl
theorem ze24 : Ze Tryz.prog 24 [.int .i64 0, .int .i64 0, .int .i64 0, .int .u64 0] := ⟨.agg #[.int .i64 0, .int .i64 0, .int .i64 0, .int .u64 0], rfl, fun _ => by kernel_rfl⟩
theorem ag27 : Ag Tryz.prog 27 5 := ⟨fun _ => by kernel_rfl, fun _ => by kernel_rfl⟩
theorem fa27_0 : Fa Tryz.prog 27 0 0 := fun _ _ _ => by kernel_rfl
theorem fa27_1 : Fa Tryz.prog 27 1 1 := fun _ _ _ => by kernel_rfl
theorem fa27_2 : Fa Tryz.prog 27 2 2 := fun _ _ _ => by kernel_rfl
theorem fa27_3 : Fa Tryz.prog 27 3 3 := fun _ _ _ => by kernel_rfl
theorem fa27_4 : Fa Tryz.prog 27 4 4 := fun _ _ _ => by kernel_rfl
theorem ze27 : Ze Tryz.prog 27 [.int .i64 0, .string ⟨#[]⟩, .string ⟨#[]⟩, .int .u64 0, .int .u64 0] := ⟨.agg #[.int .i64 0, .string ⟨#[]⟩, .string ⟨#[]⟩, .int .u64 0, .int .u64 0], rfl, fun _ => by kernel_rfl⟩
theorem ag29 : Ag Tryz.prog 29 9 := ⟨fun _ => by kernel_rfl, fun _ => by kernel_rfl⟩
theorem fa29_0 : Fa Tryz.prog 29 0 0 := fun _ _ _ => by kernel_rfl
theorem fa29_1 : Fa Tryz.prog 29 1 1 := fun _ _ _ => by kernel_rfl
theorem fa29_2 : Fa Tryz.prog 29 2 2 := fun _ _ _ => by kernel_rfl
theorem fa29_3 : Fa Tryz.prog 29 3 3 := fun _ _ _ => by kernel_rfl
theorem fa29_4 : Fa Tryz.prog 29 4 8 := fun _ _ _ => by kernel_rfl
theorem ag35 : Ag Tryz.prog 35 9 := ⟨fun _ => by kernel_rfl, fun _ => by kernel_rfl⟩
theorem fa35_0 : Fa Tryz.prog 35 0 0 := fun _ _ _ => by kernel_rfl
theorem fa35_1 : Fa Tryz.prog 35 1 1 := fun _ _ _ => by kernel_rfl
theorem fa35_2 : Fa Tryz.prog 35 2 2 := fun _ _ _ => by kernel_rfl
theorem fa35_3 : Fa Tryz.prog 35 3 3 := fun _ _ _ => by kernel_rfl
theorem fa35_4 : Fa Tryz.prog 35 4 4 := fun _ _ _ => by kernel_rfl
theorem ze35 : Ze Tryz.prog 35 [.int .u64 0, .int .u64 0, .int .u64 0, .int .u64 0, .int .i64 0, .string ⟨#[]⟩, .string ⟨#[]⟩, .int .u64 0, .int .u64 0] := ⟨.agg #[.int .u64 0, .int .u64 0, .int .u64 0, .int .u64 0, .int .i64 0, .string ⟨#[]⟩, .string ⟨#[]⟩, .int .u64 0, .int .u64 0], rfl, fun _ => by kernel_rfl⟩
theorem ag41 : Ag Tryz.prog 41 3 := ⟨fun _ => by kernel_rfl, fun _ => by kernel_rfl⟩
theorem fa41_1 : Fa Tryz.prog 41 1 1 := fun _ _ _ => by kernel_rfl
theorem fa41_2 : Fa Tryz.prog 41 2 2 := fun _ _ _ => by kernel_rfl
theorem ze41 : Ze Tryz.prog 41 [.int .i64 0, .string ⟨#[]⟩, .int .u64 0] := ⟨.agg #[.int .i64 0, .string ⟨#[]⟩, .int .u64 0], rfl, fun _ => by kernel_rfl⟩
theorem ag47 : Ag Tryz.prog 47 2 := ⟨fun _ => by kernel_rfl, fun _ => by kernel_rfl⟩
theorem fa47_0 : Fa Tryz.prog 47 0 0 := fun _ _ _ => by kernel_rfl
theorem fa47_1 : Fa Tryz.prog 47 1 1 := fun _ _ _ => by kernel_rfl
theorem ze47 : Ze Tryz.prog 47 [.int .i64 0, .int .i64 0] := ⟨.agg #[.int .i64 0, .int .i64 0], rfl, fun _ => by kernel_rfl⟩
theorem ag50 : Ag Tryz.prog 50 4 := ⟨fun _ => by kernel_rfl, fun _ => by kernel_rfl⟩
theorem fa50_0 : Fa Tryz.prog 50 0 0 := fun _ _ _ => by kernel_rfl
theorem fa50_1 : Fa Tryz.prog 50 1 1 := fun _ _ _ => by kernel_rfl
theorem fa50_2 : Fa Tryz.prog 50 2 2 := fun _ _ _ => by kernel_rfl
theorem fa50_3 : Fa Tryz.prog 50 3 3 := fun _ _ _ => by kernel_rfl
theorem ze50 : Ze Tryz.prog 50 [.string ⟨#[]⟩, .string ⟨#[]⟩, .int .u64 0, .int .u64 0] := ⟨.agg #[.string ⟨#[]⟩, .string ⟨#[]⟩, .int .u64 0, .int .u64 0], rfl, fun _ => by kernel_rfl⟩
theorem sc68 : Sc Tryz.prog 68 := ⟨fun _ => by kernel_rfl, fun _ => by kernel_rfl⟩
theorem sc92 : Sc Tryz.prog 92 := ⟨fun _ => by kernel_rfl, fun _ => by kernel_rfl⟩
theorem sc93 : Sc Tryz.prog 93 := ⟨fun _ => by kernel_rfl, fun _ => by kernel_rfl⟩
theorem sc94 : Sc Tryz.prog 94 := ⟨fun _ => by kernel_rfl, fun _ => by kernel_rfl⟩
theorem fa96_0 : Fa Tryz.prog 96 0 0 := fun _ _ _ => by kernel_rfl
theorem fa96_1 : Fa Tryz.prog 96 1 4 := fun _ _ _ => by kernel_rfl
theorem fa96_2 : Fa Tryz.prog 96 2 5 := fun _ _ _ => by kernel_rfl
theorem fa96_3 : Fa Tryz.prog 96 3 6 := fun _ _ _ => by kernel_rfl
theorem fa96_4 : Fa Tryz.prog 96 4 7 := fun _ _ _ => by kernel_rfl
theorem fa96_5 : Fa Tryz.prog 96 5 8 := fun _ _ _ => by kernel_rfl
theorem fa96_6 : Fa Tryz.prog 96 6 9 := fun _ _ _ => by kernel_rfl
theorem fa96_7 : Fa Tryz.prog 96 7 10 := fun _ _ _ => by kernel_rfl
theorem ag102 : Ag Tryz.prog 102 4 := ⟨fun _ => by kernel_rfl, fun _ => by kernel_rfl⟩
theorem fa102_0 : Fa Tryz.prog 102 0 0 := fun _ _ _ => by kernel_rfl
theorem fa102_1 : Fa Tryz.prog 102 1 1 := fun _ _ _ => by kernel_rfl
theorem ze102 : Ze Tryz.prog 102 [.int .u64 0, .int .i64 0, .string ⟨#[]⟩, .int .u64 0] := ⟨.agg #[.int .u64 0, .int .i64 0, .string ⟨#[]⟩, .int .u64 0], rfl, fun _ => by kernel_rfl⟩
theorem sc131 : Sc Tryz.prog 131 := ⟨fun _ => by kernel_rfl, fun _ => by kernel_rfl⟩
theorem sc136 : Sc Tryz.prog 136 := ⟨fun _ => by kernel_rfl, fun _ => by kernel_rfl⟩
theorem fa138_0 : Fa Tryz.prog 138 0 0 := fun _ _ _ => by kernel_rfl
theorem fa138_1 : Fa Tryz.prog 138 1 1 := fun _ _ _ => by kernel_rfl
theorem sc141 : Sc Tryz.prog 141 := ⟨fun _ => by kernel_rfl, fun _ => by kernel_rfl⟩
theorem sc142 : Sc Tryz.prog 142 := ⟨fun _ => by kernel_rfl, fun _ => by kernel_rfl⟩
theorem fa144_0 : Fa Tryz.prog 144 0 0 := fun _ _ _ => by kernel_rfl
theorem fa144_1 : Fa Tryz.prog 144 1 1 := fun _ _ _ => by kernel_rfl
theorem fa144_2 : Fa Tryz.prog 144 2 2 := fun _ _ _ => by kernel_rfl
theorem sc191 : Sc Tryz.prog 191 := ⟨fun _ => by kernel_rfl, fun _ => by kernel_rfl⟩
theorem fa193_0 : Fa Tryz.prog 193 0 0 := fun _ _ _ => by kernel_rfl
theorem fa193_1 : Fa Tryz.prog 193 1 1 := fun _ _ _ => by kernel_rfl
theorem fa193_2 : Fa Tryz.prog 193 2 2 := fun _ _ _ => by kernel_rfl
theorem sc194 : Sc Tryz.prog 194 := ⟨fun _ => by kernel_rfl, fun _ => by kernel_rfl⟩
theorem fa196_0 : Fa Tryz.prog 196 0 0 := fun _ _ _ => by kernel_rfl
theorem fa196_1 : Fa Tryz.prog 196 1 1 := fun _ _ _ => by kernel_rfl
theorem fa196_2 : Fa Tryz.prog 196 2 2 := fun _ _ _ => by kernel_rfl
theorem sc233 : Sc Tryz.prog 233 := ⟨fun _ => by kernel_rfl, fun _ => by kernel_rfl⟩
theorem sc234 : Sc Tryz.prog 234 := ⟨fun _ => by kernel_rfl, fun _ => by kernel_rfl⟩
theorem sc235 : Sc Tryz.prog 235 := ⟨fun _ => by kernel_rfl, fun _ => by kernel_rfl⟩
theorem fa237_0 : Fa Tryz.prog 237 0 0 := fun _ _ _ => by kernel_rfl
theorem fa237_1 : Fa Tryz.prog 237 1 1 := fun _ _ _ => by kernel_rfl
theorem fa237_2 : Fa Tryz.prog 237 2 2 := fun _ _ _ => by kernel_rfl
theorem fa237_3 : Fa Tryz.prog 237 3 3 := fun _ _ _ => by kernel_rfl
theorem fa237_4 : Fa Tryz.prog 237 4 4 := fun _ _ _ => by kernel_rfl
theorem ag240 : Ag Tryz.prog 240 4 := ⟨fun _ => by kernel_rfl, fun _ => by kernel_rfl⟩
theorem fa240_0 : Fa Tryz.prog 240 0 0 := fun _ _ _ => by kernel_rfl
theorem fa240_1 : Fa Tryz.prog 240 1 1 := fun _ _ _ => by kernel_rfl
theorem fa240_2 : Fa Tryz.prog 240 2 2 := fun _ _ _ => by kernel_rfl
theorem fa240_3 : Fa Tryz.prog 240 3 3 := fun _ _ _ => by kernel_rfl
theorem ag243 : Ag Tryz.prog 243 2 := ⟨fun _ => by kernel_rfl, fun _ => by kernel_rfl⟩
theorem ze243 : Ze Tryz.prog 243 [.int .i64 0, .int .i64 0] := ⟨.agg #[.int .i64 0, .int .i64 0], rfl, fun _ => by kernel_rfl⟩
theorem fa250_0 : Fa Tryz.prog 250 0 0 := fun _ _ _ => by kernel_rfl
theorem fa250_1 : Fa Tryz.prog 250 1 1 := fun _ _ _ => by kernel_rfl
theorem fa250_2 : Fa Tryz.prog 250 2 2 := fun _ _ _ => by kernel_rfl
theorem fa250_3 : Fa Tryz.prog 250 3 6 := fun _ _ _ => by kernel_rfl
theorem fa250_4 : Fa Tryz.prog 250 4 7 := fun _ _ _ => by kernel_rfl
theorem ca12 : Ca Tryz.prog 12 := fun _ _ => by kernel_rfl
theorem ca13 : Ca Tryz.prog 13 := fun _ _ => by kernel_rfl
theorem ca14 : Ca Tryz.prog 14 := fun _ _ => by kernel_rfl
theorem ca15 : Ca Tryz.prog 15 := fun _ _ => by kernel_rfl
theorem ca16 : Ca Tryz.prog 16 := fun _ _ => by kernel_rfl
theorem ca17 : Ca Tryz.prog 17 := fun _ _ => by kernel_rfl
theorem ca19 : Ca Tryz.prog 19 := fun _ _ => by kernel_rfl
theorem ca20 : Ca Tryz.prog 20 := fun _ _ => by kernel_rfl
theorem ca21 : Ca Tryz.prog 21 := fun _ _ => by kernel_rfl
theorem ca25 : Ca Tryz.prog 25 := fun _ _ => by kernel_rfl
theorem ca27 : Ca Tryz.prog 27 := fun _ _ => by kernel_rfl
theorem ca28 : Ca Tryz.prog 28 := fun _ _ => by kernel_rfl
theorem ca29 : Ca Tryz.prog 29 := fun _ _ => by kernel_rfl
theorem ca30 : Ca Tryz.prog 30 := fun _ _ => by kernel_rfl
theorem ca34 : Ca Tryz.prog 34 := fun _ _ => by kernel_rfl
theorem ca35 : Ca Tryz.prog 35 := fun _ _ => by kernel_rfl
theorem ca36 : Ca Tryz.prog 36 := fun _ _ => by kernel_rfl
theorem ca37 : Ca Tryz.prog 37 := fun _ _ => by kernel_rfl
theorem ca38 : Ca Tryz.prog 38 := fun _ _ => by kernel_rfl
theorem ca39 : Ca Tryz.prog 39 := fun _ _ => by kernel_rfl
theorem ca40 : Ca Tryz.prog 40 := fun _ _ => by kernel_rfl
theorem ca41 : Ca Tryz.prog 41 := fun _ _ => by kernel_rfl
theorem ca42 : Ca Tryz.prog 42 := fun _ _ => by kernel_rfl
theorem ca64 : Ca Tryz.prog 64 := fun _ _ => by kernel_rfl
theorem ca66 : Ca Tryz.prog 66 := fun _ _ => by kernel_rfl
theorem ca67 : Ca Tryz.prog 67 := fun _ _ => by kernel_rfl
theorem ca68 : Ca Tryz.prog 68 := fun _ _ => by kernel_rfl
theorem ca69 : Ca Tryz.prog 69 := fun _ _ => by kernel_rfl
theorem ca70 : Ca Tryz.prog 70 := fun _ _ => by kernel_rfl
theorem ca71 : Ca Tryz.prog 71 := fun _ _ => by kernel_rfl
theorem ca72 : Ca Tryz.prog 72 := fun _ _ => by kernel_rfl
theorem ca73 : Ca Tryz.prog 73 := fun _ _ => by kernel_rfl
theorem ca74 : Ca Tryz.prog 74 := fun _ _ => by kernel_rfl
theorem ca75 : Ca Tryz.prog 75 := fun _ _ => by kernel_rfl
theorem ca76 : Ca Tryz.prog 76 := fun _ _ => by kernel_rfl
theorem ca107 : Ca Tryz.prog 107 := fun _ _ => by kernel_rfl
theorem ca115 : Ca Tryz.prog 115 := fun _ _ => by kernel_rfl
theorem ca116 : Ca Tryz.prog 116 := fun _ _ => by kernel_rfl
theorem ca117 : Ca Tryz.prog 117 := fun _ _ => by kernel_rfl
theorem ca118 : Ca Tryz.prog 118 := fun _ _ => by kernel_rfl
theorem ca119 : Ca Tryz.prog 119 := fun _ _ => by kernel_rfl
theorem ca120 : Ca Tryz.prog 120 := fun _ _ => by kernel_rfl
theorem ca121 : Ca Tryz.prog 121 := fun _ _ => by kernel_rfl
theorem ca122 : Ca Tryz.prog 122 := fun _ _ => by kernel_rfl
theorem ca123 : Ca Tryz.prog 123 := fun _ _ => by kernel_rfl
theorem ca124 : Ca Tryz.prog 124 := fun _ _ => by kernel_rfl
theorem ca128 : Ca Tryz.prog 128 := fun _ _ => by kernel_rfl
theorem ca129 : Ca Tryz.prog 129 := fun _ _ => by kernel_rfl
theorem ca130 : Ca Tryz.prog 130 := fun _ _ => by kernel_rfl
theorem ca157 : Ca Tryz.prog 157 := fun _ _ => by kernel_rfl
theorem ca158 : Ca Tryz.prog 158 := fun _ _ => by kernel_rfl
theorem ca160 : Ca Tryz.prog 160 := fun _ _ => by kernel_rfl
theorem ca161 : Ca Tryz.prog 161 := fun _ _ => by kernel_rfl
theorem ca162 : Ca Tryz.prog 162 := fun _ _ => by kernel_rfl
theorem ca163 : Ca Tryz.prog 163 := fun _ _ => by kernel_rfl
theorem ca164 : Ca Tryz.prog 164 := fun _ _ => by kernel_rfl
theorem ca165 : Ca Tryz.prog 165 := fun _ _ => by kernel_rfl
theorem ca166 : Ca Tryz.prog 166 := fun _ _ => by kernel_rfl
theorem ca167 : Ca Tryz.prog 167 := fun _ _ => by kernel_rfl
theorem ca168 : Ca Tryz.prog 168 := fun _ _ => by kernel_rfl
theorem ca169 : Ca Tryz.prog 169 := fun _ _ => by kernel_rfl
theorem ca170 : Ca Tryz.prog 170 := fun _ _ => by kernel_rfl
theorem ca207 : Ca Tryz.prog 207 := fun _ _ => by kernel_rfl
theorem ca208 : Ca Tryz.prog 208 := fun _ _ => by kernel_rfl
theorem ca209 : Ca Tryz.prog 209 := fun _ _ => by kernel_rfl
theorem ca210 : Ca Tryz.prog 210 := fun _ _ => by kernel_rfl
theorem ca211 : Ca Tryz.prog 211 := fun _ _ => by kernel_rfl
theorem ca212 : Ca Tryz.prog 212 := fun _ _ => by kernel_rfl
theorem ca213 : Ca Tryz.prog 213 := fun _ _ => by kernel_rfl
theorem ca214 : Ca Tryz.prog 214 := fun _ _ => by kernel_rfl
theorem ca215 : Ca Tryz.prog 215 := fun _ _ => by kernel_rfl
theorem ca216 : Ca Tryz.prog 216 := fun _ _ => by kernel_rfl
theorem ca239 : Ca Tryz.prog 239 := fun _ _ => by kernel_rfl
theorem ca240 : Ca Tryz.prog 240 := fun _ _ => by kernel_rfl
theorem ca248 : Ca Tryz.prog 248 := fun _ _ => by kernel_rfl
theorem ca249 : Ca Tryz.prog 249 := fun _ _ => by kernel_rfl
theorem ca253 : Ca Tryz.prog 253 := fun _ _ => by kernel_rfl
theorem mixed : Tryz.prog.follows .mixedOrders = true := by kernel_rfl
end Go.Proofs.YtpanhdnglicknaaGreat
