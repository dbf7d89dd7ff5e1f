/-
  Facts on the types and functions of this seat's program, by a program of this session's.
-/
import Derived.Test.YtpanhdnglicknaaProg
import Derived.Test.YtpanhdnglicknaaHwC
import Derived.KernelRfl
set_option linter.unusedSimpArgs false
namespace Go.Proofs.Ytpanhdnglicknaa
open Go Go.Proofs.Ytpanhdnglicknaa.Hw
theorem sc2 : Sc Try.prog 2 := ⟨fun _ => by kernel_rfl, fun _ => by kernel_rfl⟩
theorem sc3 : Sc Try.prog 3 := ⟨fun _ => by kernel_rfl, fun _ => by kernel_rfl⟩
theorem sc4 : Sc Try.prog 4 := ⟨fun _ => by kernel_rfl, fun _ => by kernel_rfl⟩
theorem sc5 : Sc Try.prog 5 := ⟨fun _ => by kernel_rfl, fun _ => by kernel_rfl⟩
theorem sc9 : Sc Try.prog 9 := ⟨fun _ => by kernel_rfl, fun _ => by kernel_rfl⟩
theorem sc22 : Sc Try.prog 22 := ⟨fun _ => by kernel_rfl, fun _ => by kernel_rfl⟩
theorem sc24 : Sc Try.prog 24 := ⟨fun _ => by kernel_rfl, fun _ => by kernel_rfl⟩
theorem ze24 : Ze Try.prog 24 [.pointer none] := ⟨.pointer none, rfl, fun _ => by kernel_rfl⟩
theorem sc25 : Sc Try.prog 25 := ⟨fun _ => by kernel_rfl, fun _ => by kernel_rfl⟩
theorem ag29 : Ag Try.prog 29 4 := ⟨fun _ => by kernel_rfl, fun _ => by kernel_rfl⟩
theorem fa29_0 : Fa Try.prog 29 0 0 := fun _ _ _ => by kernel_rfl
theorem fa29_1 : Fa Try.prog 29 1 1 := fun _ _ _ => by kernel_rfl
theorem fa29_2 : Fa Try.prog 29 2 2 := fun _ _ _ => by kernel_rfl
theorem fa29_3 : Fa Try.prog 29 3 3 := fun _ _ _ => by kernel_rfl
theorem ag31 : Ag Try.prog 31 5 := ⟨fun _ => by kernel_rfl, fun _ => by kernel_rfl⟩
theorem fa31_0 : Fa Try.prog 31 0 0 := fun _ _ _ => by kernel_rfl
theorem fa31_1 : Fa Try.prog 31 1 1 := fun _ _ _ => by kernel_rfl
theorem fa31_2 : Fa Try.prog 31 2 2 := fun _ _ _ => by kernel_rfl
theorem fa31_3 : Fa Try.prog 31 3 3 := fun _ _ _ => by kernel_rfl
theorem fa31_4 : Fa Try.prog 31 4 4 := fun _ _ _ => by kernel_rfl
theorem ag33 : Ag Try.prog 33 3 := ⟨fun _ => by kernel_rfl, fun _ => by kernel_rfl⟩
theorem fa33_0 : Fa Try.prog 33 0 0 := fun _ _ _ => by kernel_rfl
theorem fa33_1 : Fa Try.prog 33 1 1 := fun _ _ _ => by kernel_rfl
theorem fa33_2 : Fa Try.prog 33 2 2 := fun _ _ _ => by kernel_rfl
theorem ze33 : Ze Try.prog 33 [.int .i64 0, .string ⟨#[]⟩, .int .u64 0] := ⟨.agg #[.int .i64 0, .string ⟨#[]⟩, .int .u64 0], rfl, fun _ => by kernel_rfl⟩
theorem fa37_0 : Fa Try.prog 37 0 0 := fun _ _ _ => by kernel_rfl
theorem fa37_1 : Fa Try.prog 37 1 1 := fun _ _ _ => by kernel_rfl
theorem fa37_2 : Fa Try.prog 37 2 2 := fun _ _ _ => by kernel_rfl
theorem fa37_3 : Fa Try.prog 37 3 3 := fun _ _ _ => by kernel_rfl
theorem fa37_4 : Fa Try.prog 37 4 4 := fun _ _ _ => by kernel_rfl
theorem ag44 : Ag Try.prog 44 4 := ⟨fun _ => by kernel_rfl, fun _ => by kernel_rfl⟩
theorem fa44_0 : Fa Try.prog 44 0 0 := fun _ _ _ => by kernel_rfl
theorem fa44_1 : Fa Try.prog 44 1 1 := fun _ _ _ => by kernel_rfl
theorem fa44_2 : Fa Try.prog 44 2 2 := fun _ _ _ => by kernel_rfl
theorem fa44_3 : Fa Try.prog 44 3 3 := fun _ _ _ => by kernel_rfl
theorem ze44 : Ze Try.prog 44 [.string ⟨#[]⟩, .string ⟨#[]⟩, .int .u64 0, .int .u64 0] := ⟨.agg #[.string ⟨#[]⟩, .string ⟨#[]⟩, .int .u64 0, .int .u64 0], rfl, fun _ => by kernel_rfl⟩
theorem sc48 : Sc Try.prog 48 := ⟨fun _ => by kernel_rfl, fun _ => by kernel_rfl⟩
theorem sc51 : Sc Try.prog 51 := ⟨fun _ => by kernel_rfl, fun _ => by kernel_rfl⟩
theorem sc53 : Sc Try.prog 53 := ⟨fun _ => by kernel_rfl, fun _ => by kernel_rfl⟩
theorem fa55_0 : Fa Try.prog 55 0 0 := fun _ _ _ => by kernel_rfl
theorem fa55_1 : Fa Try.prog 55 1 1 := fun _ _ _ => by kernel_rfl
theorem fa57_0 : Fa Try.prog 57 0 0 := fun _ _ _ => by kernel_rfl
theorem fa57_1 : Fa Try.prog 57 1 4 := fun _ _ _ => by kernel_rfl
theorem fa57_2 : Fa Try.prog 57 2 5 := fun _ _ _ => by kernel_rfl
theorem fa57_3 : Fa Try.prog 57 3 6 := fun _ _ _ => by kernel_rfl
theorem fa57_4 : Fa Try.prog 57 4 7 := fun _ _ _ => by kernel_rfl
theorem fa57_5 : Fa Try.prog 57 5 8 := fun _ _ _ => by kernel_rfl
theorem fa57_6 : Fa Try.prog 57 6 9 := fun _ _ _ => by kernel_rfl
theorem fa57_7 : Fa Try.prog 57 7 10 := fun _ _ _ => by kernel_rfl
theorem ag63 : Ag Try.prog 63 4 := ⟨fun _ => by kernel_rfl, fun _ => by kernel_rfl⟩
theorem fa63_0 : Fa Try.prog 63 0 0 := fun _ _ _ => by kernel_rfl
theorem fa63_1 : Fa Try.prog 63 1 1 := fun _ _ _ => by kernel_rfl
theorem ze63 : Ze Try.prog 63 [.int .u64 0, .int .i64 0, .string ⟨#[]⟩, .int .u64 0] := ⟨.agg #[.int .u64 0, .int .i64 0, .string ⟨#[]⟩, .int .u64 0], rfl, fun _ => by kernel_rfl⟩
theorem sc69 : Sc Try.prog 69 := ⟨fun _ => by kernel_rfl, fun _ => by kernel_rfl⟩
theorem sc70 : Sc Try.prog 70 := ⟨fun _ => by kernel_rfl, fun _ => by kernel_rfl⟩
theorem fa72_0 : Fa Try.prog 72 0 0 := fun _ _ _ => by kernel_rfl
theorem fa72_1 : Fa Try.prog 72 1 1 := fun _ _ _ => by kernel_rfl
theorem fa72_2 : Fa Try.prog 72 2 2 := fun _ _ _ => by kernel_rfl
theorem sc77 : Sc Try.prog 77 := ⟨fun _ => by kernel_rfl, fun _ => by kernel_rfl⟩
theorem fa79_0 : Fa Try.prog 79 0 0 := fun _ _ _ => by kernel_rfl
theorem fa79_1 : Fa Try.prog 79 1 1 := fun _ _ _ => by kernel_rfl
theorem sc88 : Sc Try.prog 88 := ⟨fun _ => by kernel_rfl, fun _ => by kernel_rfl⟩
theorem fa92_0 : Fa Try.prog 92 0 0 := fun _ _ _ => by kernel_rfl
theorem fa92_1 : Fa Try.prog 92 1 1 := fun _ _ _ => by kernel_rfl
theorem fa92_2 : Fa Try.prog 92 2 2 := fun _ _ _ => by kernel_rfl
theorem sc93 : Sc Try.prog 93 := ⟨fun _ => by kernel_rfl, fun _ => by kernel_rfl⟩
theorem fa98_0 : Fa Try.prog 98 0 0 := fun _ _ _ => by kernel_rfl
theorem fa98_1 : Fa Try.prog 98 1 1 := fun _ _ _ => by kernel_rfl
theorem fa98_2 : Fa Try.prog 98 2 2 := fun _ _ _ => by kernel_rfl
theorem sc105 : Sc Try.prog 105 := ⟨fun _ => by kernel_rfl, fun _ => by kernel_rfl⟩
theorem sc106 : Sc Try.prog 106 := ⟨fun _ => by kernel_rfl, fun _ => by kernel_rfl⟩
theorem sc107 : Sc Try.prog 107 := ⟨fun _ => by kernel_rfl, fun _ => by kernel_rfl⟩
theorem fa109_0 : Fa Try.prog 109 0 0 := fun _ _ _ => by kernel_rfl
theorem fa109_1 : Fa Try.prog 109 1 1 := fun _ _ _ => by kernel_rfl
theorem fa109_2 : Fa Try.prog 109 2 2 := fun _ _ _ => by kernel_rfl
theorem fa109_3 : Fa Try.prog 109 3 3 := fun _ _ _ => by kernel_rfl
theorem fa109_4 : Fa Try.prog 109 4 4 := fun _ _ _ => by kernel_rfl
theorem ag111 : Ag Try.prog 111 4 := ⟨fun _ => by kernel_rfl, fun _ => by kernel_rfl⟩
theorem fa111_0 : Fa Try.prog 111 0 0 := fun _ _ _ => by kernel_rfl
theorem fa111_1 : Fa Try.prog 111 1 1 := fun _ _ _ => by kernel_rfl
theorem fa111_2 : Fa Try.prog 111 2 2 := fun _ _ _ => by kernel_rfl
theorem fa111_3 : Fa Try.prog 111 3 3 := fun _ _ _ => by kernel_rfl
theorem sc112 : Sc Try.prog 112 := ⟨fun _ => by kernel_rfl, fun _ => by kernel_rfl⟩
theorem sc113 : Sc Try.prog 113 := ⟨fun _ => by kernel_rfl, fun _ => by kernel_rfl⟩
theorem fa116_0 : Fa Try.prog 116 0 0 := fun _ _ _ => by kernel_rfl
theorem fa116_1 : Fa Try.prog 116 1 1 := fun _ _ _ => by kernel_rfl
theorem fa116_2 : Fa Try.prog 116 2 2 := fun _ _ _ => by kernel_rfl
theorem fa116_3 : Fa Try.prog 116 3 6 := fun _ _ _ => by kernel_rfl
theorem fa116_4 : Fa Try.prog 116 4 7 := fun _ _ _ => by kernel_rfl
theorem ag121 : Ag Try.prog 121 2 := ⟨fun _ => by kernel_rfl, fun _ => by kernel_rfl⟩
theorem ze121 : Ze Try.prog 121 [.int .i64 0, .int .i64 0] := ⟨.agg #[.int .i64 0, .int .i64 0], rfl, fun _ => by kernel_rfl⟩
theorem ca6 : Ca Try.prog 6 := fun _ _ => by kernel_rfl
theorem ca7 : Ca Try.prog 7 := fun _ _ => by kernel_rfl
theorem ca8 : Ca Try.prog 8 := fun _ _ => by kernel_rfl
theorem ca9 : Ca Try.prog 9 := fun _ _ => by kernel_rfl
theorem ca10 : Ca Try.prog 10 := fun _ _ => by kernel_rfl
theorem ca11 : Ca Try.prog 11 := fun _ _ => by kernel_rfl
theorem ca12 : Ca Try.prog 12 := fun _ _ => by kernel_rfl
theorem ca13 : Ca Try.prog 13 := fun _ _ => by kernel_rfl
theorem ca14 : Ca Try.prog 14 := fun _ _ => by kernel_rfl
theorem ca15 : Ca Try.prog 15 := fun _ _ => by kernel_rfl
theorem ca16 : Ca Try.prog 16 := fun _ _ => by kernel_rfl
theorem ca17 : Ca Try.prog 17 := fun _ _ => by kernel_rfl
theorem ca18 : Ca Try.prog 18 := fun _ _ => by kernel_rfl
theorem ca19 : Ca Try.prog 19 := fun _ _ => by kernel_rfl
theorem ca20 : Ca Try.prog 20 := fun _ _ => by kernel_rfl
theorem ca21 : Ca Try.prog 21 := fun _ _ => by kernel_rfl
theorem ca22 : Ca Try.prog 22 := fun _ _ => by kernel_rfl
theorem ca23 : Ca Try.prog 23 := fun _ _ => by kernel_rfl
theorem ca24 : Ca Try.prog 24 := fun _ _ => by kernel_rfl
theorem ca26 : Ca Try.prog 26 := fun _ _ => by kernel_rfl
theorem ca27 : Ca Try.prog 27 := fun _ _ => by kernel_rfl
theorem ca28 : Ca Try.prog 28 := fun _ _ => by kernel_rfl
theorem ca29 : Ca Try.prog 29 := fun _ _ => by kernel_rfl
theorem ca30 : Ca Try.prog 30 := fun _ _ => by kernel_rfl
theorem ca31 : Ca Try.prog 31 := fun _ _ => by kernel_rfl
theorem ca32 : Ca Try.prog 32 := fun _ _ => by kernel_rfl
theorem ca33 : Ca Try.prog 33 := fun _ _ => by kernel_rfl
theorem ca34 : Ca Try.prog 34 := fun _ _ => by kernel_rfl
theorem ca35 : Ca Try.prog 35 := fun _ _ => by kernel_rfl
theorem ca36 : Ca Try.prog 36 := fun _ _ => by kernel_rfl
theorem ca37 : Ca Try.prog 37 := fun _ _ => by kernel_rfl
theorem ca38 : Ca Try.prog 38 := fun _ _ => by kernel_rfl
theorem ca39 : Ca Try.prog 39 := fun _ _ => by kernel_rfl
theorem ca40 : Ca Try.prog 40 := fun _ _ => by kernel_rfl
theorem ca41 : Ca Try.prog 41 := fun _ _ => by kernel_rfl
theorem ca42 : Ca Try.prog 42 := fun _ _ => by kernel_rfl
theorem ca43 : Ca Try.prog 43 := fun _ _ => by kernel_rfl
theorem ca44 : Ca Try.prog 44 := fun _ _ => by kernel_rfl
theorem ca45 : Ca Try.prog 45 := fun _ _ => by kernel_rfl
theorem ca46 : Ca Try.prog 46 := fun _ _ => by kernel_rfl
theorem ca47 : Ca Try.prog 47 := fun _ _ => by kernel_rfl
theorem ca48 : Ca Try.prog 48 := fun _ _ => by kernel_rfl
theorem ca52 : Ca Try.prog 52 := fun _ _ => by kernel_rfl
theorem ca53 : Ca Try.prog 53 := fun _ _ => by kernel_rfl
theorem ca54 : Ca Try.prog 54 := fun _ _ => by kernel_rfl
theorem ca55 : Ca Try.prog 55 := fun _ _ => by kernel_rfl
theorem ca56 : Ca Try.prog 56 := fun _ _ => by kernel_rfl
theorem ca57 : Ca Try.prog 57 := fun _ _ => by kernel_rfl
theorem ca58 : Ca Try.prog 58 := fun _ _ => by kernel_rfl
theorem ca59 : Ca Try.prog 59 := fun _ _ => by kernel_rfl
theorem ca60 : Ca Try.prog 60 := fun _ _ => by kernel_rfl
theorem ca61 : Ca Try.prog 61 := fun _ _ => by kernel_rfl
theorem ca62 : Ca Try.prog 62 := fun _ _ => by kernel_rfl
theorem ca66 : Ca Try.prog 66 := fun _ _ => by kernel_rfl
theorem ca67 : Ca Try.prog 67 := fun _ _ => by kernel_rfl
theorem ca68 : Ca Try.prog 68 := fun _ _ => by kernel_rfl
theorem ca69 : Ca Try.prog 69 := fun _ _ => by kernel_rfl
theorem ca70 : Ca Try.prog 70 := fun _ _ => by kernel_rfl
theorem ca71 : Ca Try.prog 71 := fun _ _ => by kernel_rfl
theorem ca72 : Ca Try.prog 72 := fun _ _ => by kernel_rfl
theorem ca73 : Ca Try.prog 73 := fun _ _ => by kernel_rfl
theorem ca74 : Ca Try.prog 74 := fun _ _ => by kernel_rfl
theorem ca75 : Ca Try.prog 75 := fun _ _ => by kernel_rfl
theorem ca76 : Ca Try.prog 76 := fun _ _ => by kernel_rfl
theorem ca77 : Ca Try.prog 77 := fun _ _ => by kernel_rfl
theorem ca89 : Ca Try.prog 89 := fun _ _ => by kernel_rfl
theorem ca90 : Ca Try.prog 90 := fun _ _ => by kernel_rfl
theorem ca97 : Ca Try.prog 97 := fun _ _ => by kernel_rfl
theorem ca98 : Ca Try.prog 98 := fun _ _ => by kernel_rfl
theorem ca100 : Ca Try.prog 100 := fun _ _ => by kernel_rfl
theorem mixed : Try.prog.follows .mixedOrders = true := by kernel_rfl
end Go.Proofs.Ytpanhdnglicknaa
