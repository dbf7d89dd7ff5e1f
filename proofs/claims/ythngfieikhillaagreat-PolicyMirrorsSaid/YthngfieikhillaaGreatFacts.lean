import Derived.Test.YthngfieikhillaaGreatProg
import Derived.Test.YthngfieikhillaaGreatHwC
import Derived.KernelRfl
set_option linter.unusedSimpArgs false
namespace Go.Proofs.YthngfieikhillaaGreat
open Go Go.Proofs.YthngfieikhillaaGreat.Hw
theorem sc3 : Sc Tryz.prog 3 := ⟨fun _ => by kernel_rfl, fun _ => by kernel_rfl⟩
theorem sc4 : Sc Tryz.prog 4 := ⟨fun _ => by kernel_rfl, fun _ => by kernel_rfl⟩
theorem sc5 : Sc Tryz.prog 5 := ⟨fun _ => by kernel_rfl, fun _ => by kernel_rfl⟩
theorem sc9 : Sc Tryz.prog 9 := ⟨fun _ => by kernel_rfl, fun _ => by kernel_rfl⟩
theorem ze9 : Ze Tryz.prog 9 [.string ⟨#[]⟩] := ⟨.string ⟨#[]⟩, rfl, fun _ => by kernel_rfl⟩
theorem sc23 : Sc Tryz.prog 23 := ⟨fun _ => by kernel_rfl, fun _ => by kernel_rfl⟩
theorem ze23 : Ze Tryz.prog 23 [.pointer none] := ⟨.pointer none, rfl, fun _ => by kernel_rfl⟩
theorem sc24 : Sc Tryz.prog 24 := ⟨fun _ => by kernel_rfl, fun _ => by kernel_rfl⟩
theorem sc27 : Sc Tryz.prog 27 := ⟨fun _ => by kernel_rfl, fun _ => by kernel_rfl⟩
theorem sc28 : Sc Tryz.prog 28 := ⟨fun _ => by kernel_rfl, fun _ => by kernel_rfl⟩
theorem ag30 : Ag Tryz.prog 30 2 := ⟨fun _ => by kernel_rfl, fun _ => by kernel_rfl⟩
theorem fa30_0 : Fa Tryz.prog 30 0 0 := fun _ _ _ => by kernel_rfl
theorem fa30_1 : Fa Tryz.prog 30 1 1 := fun _ _ _ => by kernel_rfl
theorem ze30 : Ze Tryz.prog 30 [.slice none 0 0, .int .i64 0] := ⟨.agg #[.slice none 0 0, .int .i64 0], rfl, fun _ => by kernel_rfl⟩
theorem ag32 : Ag Tryz.prog 32 4 := ⟨fun _ => by kernel_rfl, fun _ => by kernel_rfl⟩
theorem fa32_0 : Fa Tryz.prog 32 0 0 := fun _ _ _ => by kernel_rfl
theorem fa32_1 : Fa Tryz.prog 32 1 1 := fun _ _ _ => by kernel_rfl
theorem fa32_2 : Fa Tryz.prog 32 2 2 := fun _ _ _ => by kernel_rfl
theorem ze32 : Ze Tryz.prog 32 [.int .i64 0, .int .i64 0, .slice none 0 0, .int .i64 0] := ⟨.agg #[.int .i64 0, .int .i64 0, .slice none 0 0, .int .i64 0], rfl, fun _ => by kernel_rfl⟩
theorem sc33 : Sc Tryz.prog 33 := ⟨fun _ => by kernel_rfl, fun _ => by kernel_rfl⟩
theorem sc34 : Sc Tryz.prog 34 := ⟨fun _ => by kernel_rfl, fun _ => by kernel_rfl⟩
theorem ag36 : Ag Tryz.prog 36 5 := ⟨fun _ => by kernel_rfl, fun _ => by kernel_rfl⟩
theorem fa36_0 : Fa Tryz.prog 36 0 0 := fun _ _ _ => by kernel_rfl
theorem fa36_1 : Fa Tryz.prog 36 1 1 := fun _ _ _ => by kernel_rfl
theorem fa36_2 : Fa Tryz.prog 36 2 2 := fun _ _ _ => by kernel_rfl
theorem fa36_3 : Fa Tryz.prog 36 3 3 := fun _ _ _ => by kernel_rfl
theorem fa36_4 : Fa Tryz.prog 36 4 4 := fun _ _ _ => by kernel_rfl
theorem ze36 : Ze Tryz.prog 36 [.int .i64 0, .int .u64 0, .slice none 0 0, .slice none 0 0, .int .i64 0] := ⟨.agg #[.int .i64 0, .int .u64 0, .slice none 0 0, .slice none 0 0, .int .i64 0], rfl, fun _ => by kernel_rfl⟩
theorem ag38 : Ag Tryz.prog 38 8 := ⟨fun _ => by kernel_rfl, fun _ => by kernel_rfl⟩
theorem fa38_0 : Fa Tryz.prog 38 0 0 := fun _ _ _ => by kernel_rfl
theorem fa38_1 : Fa Tryz.prog 38 1 1 := fun _ _ _ => by kernel_rfl
theorem fa38_2 : Fa Tryz.prog 38 2 6 := fun _ _ _ => by kernel_rfl
theorem ze38 : Ze Tryz.prog 38 [.int .i64 0, .int .i64 0, .int .u64 0, .slice none 0 0, .slice none 0 0, .int .i64 0, .slice none 0 0, .int .i64 0] := ⟨.agg #[.int .i64 0, .int .i64 0, .int .u64 0, .slice none 0 0, .slice none 0 0, .int .i64 0, .slice none 0 0, .int .i64 0], rfl, fun _ => by kernel_rfl⟩
theorem ag40 : Ag Tryz.prog 40 13 := ⟨fun _ => by kernel_rfl, fun _ => by kernel_rfl⟩
theorem fa40_0 : Fa Tryz.prog 40 0 0 := fun _ _ _ => by kernel_rfl
theorem fa40_1 : Fa Tryz.prog 40 1 1 := fun _ _ _ => by kernel_rfl
theorem fa40_2 : Fa Tryz.prog 40 2 5 := fun _ _ _ => by kernel_rfl
theorem ze40 : Ze Tryz.prog 40 [.int .i64 0, .int .i64 0, .int .i64 0, .slice none 0 0, .int .i64 0, .int .i64 0, .int .i64 0, .int .u64 0, .slice none 0 0, .slice none 0 0, .int .i64 0, .slice none 0 0, .int .i64 0] := ⟨.agg #[.int .i64 0, .int .i64 0, .int .i64 0, .slice none 0 0, .int .i64 0, .int .i64 0, .int .i64 0, .int .u64 0, .slice none 0 0, .slice none 0 0, .int .i64 0, .slice none 0 0, .int .i64 0], rfl, fun _ => by kernel_rfl⟩
theorem ag46 : Ag Tryz.prog 46 2 := ⟨fun _ => by kernel_rfl, fun _ => by kernel_rfl⟩
theorem fa46_0 : Fa Tryz.prog 46 0 0 := fun _ _ _ => by kernel_rfl
theorem fa46_1 : Fa Tryz.prog 46 1 1 := fun _ _ _ => by kernel_rfl
theorem sc57 : Sc Tryz.prog 57 := ⟨fun _ => by kernel_rfl, fun _ => by kernel_rfl⟩
theorem sc60 : Sc Tryz.prog 60 := ⟨fun _ => by kernel_rfl, fun _ => by kernel_rfl⟩
theorem sc61 : Sc Tryz.prog 61 := ⟨fun _ => by kernel_rfl, fun _ => by kernel_rfl⟩
theorem fa63_0 : Fa Tryz.prog 63 0 0 := fun _ _ _ => by kernel_rfl
theorem fa63_1 : Fa Tryz.prog 63 1 1 := fun _ _ _ => by kernel_rfl
theorem fa63_2 : Fa Tryz.prog 63 2 2 := fun _ _ _ => by kernel_rfl
theorem sc82 : Sc Tryz.prog 82 := ⟨fun _ => by kernel_rfl, fun _ => by kernel_rfl⟩
theorem fa86_0 : Fa Tryz.prog 86 0 0 := fun _ _ _ => by kernel_rfl
theorem fa86_1 : Fa Tryz.prog 86 1 1 := fun _ _ _ => by kernel_rfl
theorem fa86_2 : Fa Tryz.prog 86 2 2 := fun _ _ _ => by kernel_rfl
theorem sc87 : Sc Tryz.prog 87 := ⟨fun _ => by kernel_rfl, fun _ => by kernel_rfl⟩
theorem fa92_0 : Fa Tryz.prog 92 0 0 := fun _ _ _ => by kernel_rfl
theorem fa92_1 : Fa Tryz.prog 92 1 1 := fun _ _ _ => by kernel_rfl
theorem fa92_2 : Fa Tryz.prog 92 2 2 := fun _ _ _ => by kernel_rfl
theorem sc110 : Sc Tryz.prog 110 := ⟨fun _ => by kernel_rfl, fun _ => by kernel_rfl⟩
theorem sc111 : Sc Tryz.prog 111 := ⟨fun _ => by kernel_rfl, fun _ => by kernel_rfl⟩
theorem fa113_0 : Fa Tryz.prog 113 0 0 := fun _ _ _ => by kernel_rfl
theorem fa113_1 : Fa Tryz.prog 113 1 1 := fun _ _ _ => by kernel_rfl
theorem ze113 : Ze Tryz.prog 113 [.pointer none, .slice none 0 0] := ⟨.agg #[.pointer none, .slice none 0 0], rfl, fun _ => by kernel_rfl⟩
theorem ag118 : Ag Tryz.prog 118 1 := ⟨fun _ => by kernel_rfl, fun _ => by kernel_rfl⟩
theorem fa118_0 : Fa Tryz.prog 118 0 0 := fun _ _ _ => by kernel_rfl
theorem ze118 : Ze Tryz.prog 118 [.int .i64 0] := ⟨.agg #[.int .i64 0], rfl, fun _ => by kernel_rfl⟩
theorem fa120_0 : Fa Tryz.prog 120 0 0 := fun _ _ _ => by kernel_rfl
theorem ag127 : Ag Tryz.prog 127 2 := ⟨fun _ => by kernel_rfl, fun _ => by kernel_rfl⟩
theorem fa127_0 : Fa Tryz.prog 127 0 0 := fun _ _ _ => by kernel_rfl
theorem fa127_1 : Fa Tryz.prog 127 1 1 := fun _ _ _ => by kernel_rfl
theorem ze127 : Ze Tryz.prog 127 [.int .i64 0, .int .i64 0] := ⟨.agg #[.int .i64 0, .int .i64 0], rfl, fun _ => by kernel_rfl⟩
theorem sc134 : Sc Tryz.prog 134 := ⟨fun _ => by kernel_rfl, fun _ => by kernel_rfl⟩
theorem sc135 : Sc Tryz.prog 135 := ⟨fun _ => by kernel_rfl, fun _ => by kernel_rfl⟩
theorem sc136 : Sc Tryz.prog 136 := ⟨fun _ => by kernel_rfl, fun _ => by kernel_rfl⟩
theorem fa138_0 : Fa Tryz.prog 138 0 0 := fun _ _ _ => by kernel_rfl
theorem fa138_1 : Fa Tryz.prog 138 1 1 := fun _ _ _ => by kernel_rfl
theorem fa138_2 : Fa Tryz.prog 138 2 2 := fun _ _ _ => by kernel_rfl
theorem fa138_3 : Fa Tryz.prog 138 3 3 := fun _ _ _ => by kernel_rfl
theorem fa138_4 : Fa Tryz.prog 138 4 4 := fun _ _ _ => by kernel_rfl
theorem ag140 : Ag Tryz.prog 140 4 := ⟨fun _ => by kernel_rfl, fun _ => by kernel_rfl⟩
theorem fa140_0 : Fa Tryz.prog 140 0 0 := fun _ _ _ => by kernel_rfl
theorem fa140_1 : Fa Tryz.prog 140 1 1 := fun _ _ _ => by kernel_rfl
theorem fa140_2 : Fa Tryz.prog 140 2 2 := fun _ _ _ => by kernel_rfl
theorem fa140_3 : Fa Tryz.prog 140 3 3 := fun _ _ _ => by kernel_rfl
theorem ag141 : Ag Tryz.prog 141 4 := ⟨fun _ => by kernel_rfl, fun _ => by kernel_rfl⟩
theorem fa143_0 : Fa Tryz.prog 143 0 0 := fun _ _ _ => by kernel_rfl
theorem fa143_1 : Fa Tryz.prog 143 1 1 := fun _ _ _ => by kernel_rfl
theorem fa143_2 : Fa Tryz.prog 143 2 2 := fun _ _ _ => by kernel_rfl
theorem fa143_3 : Fa Tryz.prog 143 3 6 := fun _ _ _ => by kernel_rfl
theorem fa143_4 : Fa Tryz.prog 143 4 7 := fun _ _ _ => by kernel_rfl
theorem ag160 : Ag Tryz.prog 160 4 := ⟨fun _ => by kernel_rfl, fun _ => by kernel_rfl⟩
theorem ze160 : Ze Tryz.prog 160 [.int .i64 0, .int .i64 0, .int .i64 0, .int .i64 0] := ⟨.agg #[.int .i64 0, .int .i64 0, .int .i64 0, .int .i64 0], rfl, fun _ => by kernel_rfl⟩
theorem ca5 : Ca Tryz.prog 5 := fun _ _ => by kernel_rfl
theorem ca6 : Ca Tryz.prog 6 := fun _ _ => by kernel_rfl
theorem ca7 : Ca Tryz.prog 7 := fun _ _ => by kernel_rfl
theorem ca8 : Ca Tryz.prog 8 := fun _ _ => by kernel_rfl
theorem ca9 : Ca Tryz.prog 9 := fun _ _ => by kernel_rfl
theorem ca11 : Ca Tryz.prog 11 := fun _ _ => by kernel_rfl
theorem ca12 : Ca Tryz.prog 12 := fun _ _ => by kernel_rfl
theorem ca14 : Ca Tryz.prog 14 := fun _ _ => by kernel_rfl
theorem ca16 : Ca Tryz.prog 16 := fun _ _ => by kernel_rfl
theorem ca17 : Ca Tryz.prog 17 := fun _ _ => by kernel_rfl
theorem ca18 : Ca Tryz.prog 18 := fun _ _ => by kernel_rfl
theorem ca19 : Ca Tryz.prog 19 := fun _ _ => by kernel_rfl
theorem ca20 : Ca Tryz.prog 20 := fun _ _ => by kernel_rfl
theorem ca21 : Ca Tryz.prog 21 := fun _ _ => by kernel_rfl
theorem ca22 : Ca Tryz.prog 22 := fun _ _ => by kernel_rfl
theorem ca23 : Ca Tryz.prog 23 := fun _ _ => by kernel_rfl
theorem ca24 : Ca Tryz.prog 24 := fun _ _ => by kernel_rfl
theorem ca25 : Ca Tryz.prog 25 := fun _ _ => by kernel_rfl
theorem ca26 : Ca Tryz.prog 26 := fun _ _ => by kernel_rfl
theorem ca27 : Ca Tryz.prog 27 := fun _ _ => by kernel_rfl
theorem ca28 : Ca Tryz.prog 28 := fun _ _ => by kernel_rfl
theorem ca29 : Ca Tryz.prog 29 := fun _ _ => by kernel_rfl
theorem ca30 : Ca Tryz.prog 30 := fun _ _ => by kernel_rfl
theorem ca31 : Ca Tryz.prog 31 := fun _ _ => by kernel_rfl
theorem ca32 : Ca Tryz.prog 32 := fun _ _ => by kernel_rfl
theorem ca33 : Ca Tryz.prog 33 := fun _ _ => by kernel_rfl
theorem ca34 : Ca Tryz.prog 34 := fun _ _ => by kernel_rfl
theorem ca35 : Ca Tryz.prog 35 := fun _ _ => by kernel_rfl
theorem ca36 : Ca Tryz.prog 36 := fun _ _ => by kernel_rfl
theorem ca37 : Ca Tryz.prog 37 := fun _ _ => by kernel_rfl
theorem ca38 : Ca Tryz.prog 38 := fun _ _ => by kernel_rfl
theorem ca39 : Ca Tryz.prog 39 := fun _ _ => by kernel_rfl
theorem ca40 : Ca Tryz.prog 40 := fun _ _ => by kernel_rfl
theorem ca41 : Ca Tryz.prog 41 := fun _ _ => by kernel_rfl
theorem ca42 : Ca Tryz.prog 42 := fun _ _ => by kernel_rfl
theorem ca43 : Ca Tryz.prog 43 := fun _ _ => by kernel_rfl
theorem ca46 : Ca Tryz.prog 46 := fun _ _ => by kernel_rfl
theorem ca47 : Ca Tryz.prog 47 := fun _ _ => by kernel_rfl
theorem ca48 : Ca Tryz.prog 48 := fun _ _ => by kernel_rfl
theorem ca49 : Ca Tryz.prog 49 := fun _ _ => by kernel_rfl
theorem ca50 : Ca Tryz.prog 50 := fun _ _ => by kernel_rfl
theorem ca51 : Ca Tryz.prog 51 := fun _ _ => by kernel_rfl
theorem ca52 : Ca Tryz.prog 52 := fun _ _ => by kernel_rfl
theorem ca53 : Ca Tryz.prog 53 := fun _ _ => by kernel_rfl
theorem ca54 : Ca Tryz.prog 54 := fun _ _ => by kernel_rfl
theorem ca55 : Ca Tryz.prog 55 := fun _ _ => by kernel_rfl
theorem ca56 : Ca Tryz.prog 56 := fun _ _ => by kernel_rfl
theorem ca57 : Ca Tryz.prog 57 := fun _ _ => by kernel_rfl
theorem ca58 : Ca Tryz.prog 58 := fun _ _ => by kernel_rfl
theorem ca59 : Ca Tryz.prog 59 := fun _ _ => by kernel_rfl
theorem ca60 : Ca Tryz.prog 60 := fun _ _ => by kernel_rfl
theorem ca61 : Ca Tryz.prog 61 := fun _ _ => by kernel_rfl
theorem ca62 : Ca Tryz.prog 62 := fun _ _ => by kernel_rfl
theorem ca63 : Ca Tryz.prog 63 := fun _ _ => by kernel_rfl
theorem ca64 : Ca Tryz.prog 64 := fun _ _ => by kernel_rfl
theorem ca65 : Ca Tryz.prog 65 := fun _ _ => by kernel_rfl
theorem ca66 : Ca Tryz.prog 66 := fun _ _ => by kernel_rfl
theorem ca67 : Ca Tryz.prog 67 := fun _ _ => by kernel_rfl
theorem ca68 : Ca Tryz.prog 68 := fun _ _ => by kernel_rfl
theorem ca69 : Ca Tryz.prog 69 := fun _ _ => by kernel_rfl
theorem ca70 : Ca Tryz.prog 70 := fun _ _ => by kernel_rfl
theorem ca71 : Ca Tryz.prog 71 := fun _ _ => by kernel_rfl
theorem ca72 : Ca Tryz.prog 72 := fun _ _ => by kernel_rfl
theorem ca73 : Ca Tryz.prog 73 := fun _ _ => by kernel_rfl
theorem ca74 : Ca Tryz.prog 74 := fun _ _ => by kernel_rfl
theorem ca75 : Ca Tryz.prog 75 := fun _ _ => by kernel_rfl
theorem ca76 : Ca Tryz.prog 76 := fun _ _ => by kernel_rfl
theorem ca77 : Ca Tryz.prog 77 := fun _ _ => by kernel_rfl
theorem ca78 : Ca Tryz.prog 78 := fun _ _ => by kernel_rfl
theorem ca79 : Ca Tryz.prog 79 := fun _ _ => by kernel_rfl
theorem ca80 : Ca Tryz.prog 80 := fun _ _ => by kernel_rfl
theorem ca81 : Ca Tryz.prog 81 := fun _ _ => by kernel_rfl
theorem ca86 : Ca Tryz.prog 86 := fun _ _ => by kernel_rfl
theorem ca87 : Ca Tryz.prog 87 := fun _ _ => by kernel_rfl
theorem ca88 : Ca Tryz.prog 88 := fun _ _ => by kernel_rfl
theorem ca89 : Ca Tryz.prog 89 := fun _ _ => by kernel_rfl
theorem ca90 : Ca Tryz.prog 90 := fun _ _ => by kernel_rfl
theorem ca91 : Ca Tryz.prog 91 := fun _ _ => by kernel_rfl
theorem ca92 : Ca Tryz.prog 92 := fun _ _ => by kernel_rfl
theorem ca93 : Ca Tryz.prog 93 := fun _ _ => by kernel_rfl
theorem ca94 : Ca Tryz.prog 94 := fun _ _ => by kernel_rfl
theorem ca95 : Ca Tryz.prog 95 := fun _ _ => by kernel_rfl
theorem ca96 : Ca Tryz.prog 96 := fun _ _ => by kernel_rfl
theorem ca97 : Ca Tryz.prog 97 := fun _ _ => by kernel_rfl
theorem ca98 : Ca Tryz.prog 98 := fun _ _ => by kernel_rfl
theorem ca99 : Ca Tryz.prog 99 := fun _ _ => by kernel_rfl
theorem ca100 : Ca Tryz.prog 100 := fun _ _ => by kernel_rfl
theorem ca101 : Ca Tryz.prog 101 := fun _ _ => by kernel_rfl
theorem ca102 : Ca Tryz.prog 102 := fun _ _ => by kernel_rfl
theorem ca103 : Ca Tryz.prog 103 := fun _ _ => by kernel_rfl
theorem ca104 : Ca Tryz.prog 104 := fun _ _ => by kernel_rfl
theorem ca105 : Ca Tryz.prog 105 := fun _ _ => by kernel_rfl
theorem ca106 : Ca Tryz.prog 106 := fun _ _ => by kernel_rfl
theorem ca107 : Ca Tryz.prog 107 := fun _ _ => by kernel_rfl
theorem ca108 : Ca Tryz.prog 108 := fun _ _ => by kernel_rfl
theorem ca109 : Ca Tryz.prog 109 := fun _ _ => by kernel_rfl
theorem ca110 : Ca Tryz.prog 110 := fun _ _ => by kernel_rfl
theorem ca111 : Ca Tryz.prog 111 := fun _ _ => by kernel_rfl
theorem ca112 : Ca Tryz.prog 112 := fun _ _ => by kernel_rfl
theorem ca113 : Ca Tryz.prog 113 := fun _ _ => by kernel_rfl
theorem ca116 : Ca Tryz.prog 116 := fun _ _ => by kernel_rfl
theorem ca117 : Ca Tryz.prog 117 := fun _ _ => by kernel_rfl
theorem ca118 : Ca Tryz.prog 118 := fun _ _ => by kernel_rfl
theorem ca119 : Ca Tryz.prog 119 := fun _ _ => by kernel_rfl
theorem ca120 : Ca Tryz.prog 120 := fun _ _ => by kernel_rfl
theorem ca121 : Ca Tryz.prog 121 := fun _ _ => by kernel_rfl
theorem ca122 : Ca Tryz.prog 122 := fun _ _ => by kernel_rfl
theorem ca123 : Ca Tryz.prog 123 := fun _ _ => by kernel_rfl
theorem ca124 : Ca Tryz.prog 124 := fun _ _ => by kernel_rfl
theorem ca125 : Ca Tryz.prog 125 := fun _ _ => by kernel_rfl
theorem ca126 : Ca Tryz.prog 126 := fun _ _ => by kernel_rfl
theorem ca127 : Ca Tryz.prog 127 := fun _ _ => by kernel_rfl
theorem ca128 : Ca Tryz.prog 128 := fun _ _ => by kernel_rfl
theorem ca129 : Ca Tryz.prog 129 := fun _ _ => by kernel_rfl
theorem ca130 : Ca Tryz.prog 130 := fun _ _ => by kernel_rfl
theorem ca131 : Ca Tryz.prog 131 := fun _ _ => by kernel_rfl
theorem ca133 : Ca Tryz.prog 133 := fun _ _ => by kernel_rfl
theorem ca134 : Ca Tryz.prog 134 := fun _ _ => by kernel_rfl
theorem ca135 : Ca Tryz.prog 135 := fun _ _ => by kernel_rfl
theorem ca136 : Ca Tryz.prog 136 := fun _ _ => by kernel_rfl
theorem ca137 : Ca Tryz.prog 137 := fun _ _ => by kernel_rfl
theorem ca138 : Ca Tryz.prog 138 := fun _ _ => by kernel_rfl
theorem ca139 : Ca Tryz.prog 139 := fun _ _ => by kernel_rfl
theorem ca140 : Ca Tryz.prog 140 := fun _ _ => by kernel_rfl
theorem ca141 : Ca Tryz.prog 141 := fun _ _ => by kernel_rfl
theorem ca142 : Ca Tryz.prog 142 := fun _ _ => by kernel_rfl
theorem ca143 : Ca Tryz.prog 143 := fun _ _ => by kernel_rfl
theorem ca144 : Ca Tryz.prog 144 := fun _ _ => by kernel_rfl
theorem ca145 : Ca Tryz.prog 145 := fun _ _ => by kernel_rfl
theorem mixed : Tryz.prog.follows .mixedOrders = true := by kernel_rfl
end Go.Proofs.YthngfieikhillaaGreat
