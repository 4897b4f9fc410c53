/- What the program's tables say of its types and functions: closed facts. -/
import Derived.Test.YtlmmpcdjkpibcaaProg
import Derived.Test.YtlmmpcdjkpibcaaXB
import Derived.KernelRfl
namespace Go.Proofs.YtlmmpcdjkpibcaaX
open Go Go.Proofs
set_option maxRecDepth 100000

theorem follows : Try.prog.follows .mixedOrders = true := by kernel_rfl
theorem ti1 : TI Try.prog 1 .nilFunc 1 8 := by unfold TI; kernel_rfl
theorem sc1 : isScalar Try.prog 1 = true := by kernel_rfl
theorem ti2 : TI Try.prog 2 (.int .i64 0) 1 8 := by unfold TI; kernel_rfl
theorem sc2 : isScalar Try.prog 2 = true := by kernel_rfl
theorem ti3 : TI Try.prog 3 (.int .i64 0) 1 8 := by unfold TI; kernel_rfl
theorem sc3 : isScalar Try.prog 3 = true := by kernel_rfl
theorem ti4 : TI Try.prog 4 (.bool false) 1 1 := by unfold TI; kernel_rfl
theorem sc4 : isScalar Try.prog 4 = true := by kernel_rfl
theorem ti5 : TI Try.prog 5 (.int .u8 0) 1 1 := by unfold TI; kernel_rfl
theorem sc5 : isScalar Try.prog 5 = true := by kernel_rfl
theorem ti6 : TI Try.prog 6 (.int .u8 0) 1 1 := by unfold TI; kernel_rfl
theorem sc6 : isScalar Try.prog 6 = true := by kernel_rfl
theorem ti7 : TI Try.prog 7 (.agg #[(.int .i64 0), (.int .i64 0), (.bool false), (.int .u8 0)]) 4 24 := by unfold TI; kernel_rfl
theorem ag7 : isAggT Try.prog 7 = true := by kernel_rfl
theorem bz7 : BZ Try.prog 7 [(.int .i64 0), (.int .i64 0), (.bool false), (.int .u8 0)] [(0, 1), (1, 1), (2, 1), (3, 1)] := by unfold BZ; kernel_rfl
theorem ti8 : TI Try.prog 8 (.agg #[(.int .i64 0), (.int .i64 0), (.bool false), (.int .u8 0)]) 4 24 := by unfold TI; kernel_rfl
theorem ag8 : isAggT Try.prog 8 = true := by kernel_rfl
theorem bz8 : BZ Try.prog 8 [(.int .i64 0), (.int .i64 0), (.bool false), (.int .u8 0)] [(0, 1), (1, 1), (2, 1), (3, 1)] := by unfold BZ; kernel_rfl
theorem ti9 : TI Try.prog 9 (.string .empty) 1 16 := by unfold TI; kernel_rfl
theorem sc9 : isScalar Try.prog 9 = true := by kernel_rfl
theorem ti10 : TI Try.prog 10 (.string .empty) 1 16 := by unfold TI; kernel_rfl
theorem sc10 : isScalar Try.prog 10 = true := by kernel_rfl
theorem ti11 : TI Try.prog 11 (.string .empty) 1 16 := by unfold TI; kernel_rfl
theorem sc11 : isScalar Try.prog 11 = true := by kernel_rfl
theorem ti12 : TI Try.prog 12 (.int .u64 0) 1 8 := by unfold TI; kernel_rfl
theorem sc12 : isScalar Try.prog 12 = true := by kernel_rfl
theorem ti13 : TI Try.prog 13 (.agg #[(.string .empty), (.int .u64 0)]) 2 24 := by unfold TI; kernel_rfl
theorem ag13 : isAggT Try.prog 13 = true := by kernel_rfl
theorem bz13 : BZ Try.prog 13 [(.string .empty), (.int .u64 0)] [(0, 1), (1, 1)] := by unfold BZ; kernel_rfl
theorem ti14 : TI Try.prog 14 (.agg #[(.string .empty), (.int .u64 0)]) 2 24 := by unfold TI; kernel_rfl
theorem ag14 : isAggT Try.prog 14 = true := by kernel_rfl
theorem bz14 : BZ Try.prog 14 [(.string .empty), (.int .u64 0)] [(0, 1), (1, 1)] := by unfold BZ; kernel_rfl
theorem ti15 : TI Try.prog 15 (.pointer none) 1 8 := by unfold TI; kernel_rfl
theorem sc15 : isScalar Try.prog 15 = true := by kernel_rfl
theorem ti16 : TI Try.prog 16 (.pointer none) 1 8 := by unfold TI; kernel_rfl
theorem sc16 : isScalar Try.prog 16 = true := by kernel_rfl
theorem ti17 : TI Try.prog 17 (.pointer none) 1 8 := by unfold TI; kernel_rfl
theorem sc17 : isScalar Try.prog 17 = true := by kernel_rfl
theorem ti18 : TI Try.prog 18 (.agg #[(.pointer none)]) 1 8 := by unfold TI; kernel_rfl
theorem ag18 : isAggT Try.prog 18 = true := by kernel_rfl
theorem bz18 : BZ Try.prog 18 [(.pointer none)] [(0, 1)] := by unfold BZ; kernel_rfl
theorem ti19 : TI Try.prog 19 (.agg #[(.pointer none)]) 1 8 := by unfold TI; kernel_rfl
theorem ag19 : isAggT Try.prog 19 = true := by kernel_rfl
theorem bz19 : BZ Try.prog 19 [(.pointer none)] [(0, 1)] := by unfold BZ; kernel_rfl
theorem ti20 : TI Try.prog 20 .nilIface 1 16 := by unfold TI; kernel_rfl
theorem sc20 : isScalar Try.prog 20 = true := by kernel_rfl
theorem ti21 : TI Try.prog 21 (.int .i32 0) 1 4 := by unfold TI; kernel_rfl
theorem sc21 : isScalar Try.prog 21 = true := by kernel_rfl
theorem ti22 : TI Try.prog 22 (.slice none 0 0) 1 24 := by unfold TI; kernel_rfl
theorem sc22 : isScalar Try.prog 22 = true := by kernel_rfl
theorem ti23 : TI Try.prog 23 (.pointer none) 1 8 := by unfold TI; kernel_rfl
theorem sc23 : isScalar Try.prog 23 = true := by kernel_rfl
theorem ti24 : TI Try.prog 24 .nilFunc 1 8 := by unfold TI; kernel_rfl
theorem sc24 : isScalar Try.prog 24 = true := by kernel_rfl
theorem ti25 : TI Try.prog 25 (.map none) 1 8 := by unfold TI; kernel_rfl
theorem sc25 : isScalar Try.prog 25 = true := by kernel_rfl
theorem ti26 : TI Try.prog 26 .nilFunc 1 8 := by unfold TI; kernel_rfl
theorem sc26 : isScalar Try.prog 26 = true := by kernel_rfl
theorem ti28 : TI Try.prog 28 .nilFunc 1 8 := by unfold TI; kernel_rfl
theorem sc28 : isScalar Try.prog 28 = true := by kernel_rfl
theorem ti29 : TI Try.prog 29 .nilFunc 1 8 := by unfold TI; kernel_rfl
theorem sc29 : isScalar Try.prog 29 = true := by kernel_rfl
theorem ti30 : TI Try.prog 30 (.slice none 0 0) 1 24 := by unfold TI; kernel_rfl
theorem sc30 : isScalar Try.prog 30 = true := by kernel_rfl
theorem ti31 : TI Try.prog 31 (.agg #[(.string .empty), (.string .empty), (.slice none 0 0), (.string .empty), (.int .i64 0), (.int .i64 0)]) 6 88 := by unfold TI; kernel_rfl
theorem ag31 : isAggT Try.prog 31 = true := by kernel_rfl
theorem bz31 : BZ Try.prog 31 [(.string .empty), (.string .empty), (.slice none 0 0), (.string .empty), (.int .i64 0), (.int .i64 0)] [(0, 1), (1, 1), (2, 1), (3, 1), (4, 1), (5, 1)] := by unfold BZ; kernel_rfl
theorem ti32 : TI Try.prog 32 (.agg #[(.string .empty), (.string .empty), (.slice none 0 0), (.string .empty), (.int .i64 0), (.int .i64 0)]) 6 88 := by unfold TI; kernel_rfl
theorem ag32 : isAggT Try.prog 32 = true := by kernel_rfl
theorem bz32 : BZ Try.prog 32 [(.string .empty), (.string .empty), (.slice none 0 0), (.string .empty), (.int .i64 0), (.int .i64 0)] [(0, 1), (1, 1), (2, 1), (3, 1), (4, 1), (5, 1)] := by unfold BZ; kernel_rfl
theorem ti33 : TI Try.prog 33 (.agg #[(.string .empty), (.string .empty), (.int .i64 0)]) 3 40 := by unfold TI; kernel_rfl
theorem ag33 : isAggT Try.prog 33 = true := by kernel_rfl
theorem bz33 : BZ Try.prog 33 [(.string .empty), (.string .empty), (.int .i64 0)] [(0, 1), (1, 1), (2, 1)] := by unfold BZ; kernel_rfl
theorem ti34 : TI Try.prog 34 (.agg #[(.string .empty), (.string .empty), (.int .i64 0)]) 3 40 := by unfold TI; kernel_rfl
theorem ag34 : isAggT Try.prog 34 = true := by kernel_rfl
theorem bz34 : BZ Try.prog 34 [(.string .empty), (.string .empty), (.int .i64 0)] [(0, 1), (1, 1), (2, 1)] := by unfold BZ; kernel_rfl
theorem ti35 : TI Try.prog 35 (.agg #[(.int .i64 0), (.int .i64 0), (.int .i64 0), (.string .empty), (.string .empty), (.string .empty), (.slice none 0 0), (.string .empty), (.int .i64 0), (.int .i64 0), (.string .empty), (.string .empty), (.int .i64 0), (.string .empty), (.string .empty), (.string .empty), (.int .i64 0), (.int .i64 0), (.int .i64 0), (.bool false), (.string .empty), (.string .empty), (.int .i64 0), (.int .i64 0), (.bool false)]) 25 304 := by unfold TI; kernel_rfl
theorem ag35 : isAggT Try.prog 35 = true := by kernel_rfl
theorem bz35 : BZ Try.prog 35 [(.int .i64 0), (.int .i64 0), (.int .i64 0), (.string .empty), (.string .empty), (.string .empty), (.slice none 0 0), (.string .empty), (.int .i64 0), (.int .i64 0), (.string .empty), (.string .empty), (.int .i64 0), (.string .empty), (.string .empty), (.string .empty), (.int .i64 0), (.int .i64 0), (.int .i64 0), (.bool false), (.string .empty), (.string .empty), (.int .i64 0), (.int .i64 0), (.bool false)] [(0, 1), (1, 1), (2, 1), (3, 1), (4, 6), (10, 3), (13, 1), (14, 1), (15, 1), (16, 1), (17, 1), (18, 1), (19, 1), (20, 1), (21, 1), (22, 1), (23, 1), (24, 1)] := by unfold BZ; kernel_rfl
theorem ti36 : TI Try.prog 36 (.agg #[(.int .i64 0), (.int .i64 0), (.int .i64 0), (.string .empty), (.string .empty), (.string .empty), (.slice none 0 0), (.string .empty), (.int .i64 0), (.int .i64 0), (.string .empty), (.string .empty), (.int .i64 0), (.string .empty), (.string .empty), (.string .empty), (.int .i64 0), (.int .i64 0), (.int .i64 0), (.bool false), (.string .empty), (.string .empty), (.int .i64 0), (.int .i64 0), (.bool false)]) 25 304 := by unfold TI; kernel_rfl
theorem ag36 : isAggT Try.prog 36 = true := by kernel_rfl
theorem bz36 : BZ Try.prog 36 [(.int .i64 0), (.int .i64 0), (.int .i64 0), (.string .empty), (.string .empty), (.string .empty), (.slice none 0 0), (.string .empty), (.int .i64 0), (.int .i64 0), (.string .empty), (.string .empty), (.int .i64 0), (.string .empty), (.string .empty), (.string .empty), (.int .i64 0), (.int .i64 0), (.int .i64 0), (.bool false), (.string .empty), (.string .empty), (.int .i64 0), (.int .i64 0), (.bool false)] [(0, 1), (1, 1), (2, 1), (3, 1), (4, 6), (10, 3), (13, 1), (14, 1), (15, 1), (16, 1), (17, 1), (18, 1), (19, 1), (20, 1), (21, 1), (22, 1), (23, 1), (24, 1)] := by unfold BZ; kernel_rfl
theorem ti37 : TI Try.prog 37 .nilFunc 1 8 := by unfold TI; kernel_rfl
theorem sc37 : isScalar Try.prog 37 = true := by kernel_rfl
theorem ti38 : TI Try.prog 38 .nilFunc 1 8 := by unfold TI; kernel_rfl
theorem sc38 : isScalar Try.prog 38 = true := by kernel_rfl
theorem ti40 : TI Try.prog 40 .nilFunc 1 8 := by unfold TI; kernel_rfl
theorem sc40 : isScalar Try.prog 40 = true := by kernel_rfl
theorem ti41 : TI Try.prog 41 .nilFunc 1 8 := by unfold TI; kernel_rfl
theorem sc41 : isScalar Try.prog 41 = true := by kernel_rfl
theorem ti42 : TI Try.prog 42 .nilFunc 1 8 := by unfold TI; kernel_rfl
theorem sc42 : isScalar Try.prog 42 = true := by kernel_rfl
theorem ti43 : TI Try.prog 43 (.slice none 0 0) 1 24 := by unfold TI; kernel_rfl
theorem sc43 : isScalar Try.prog 43 = true := by kernel_rfl
theorem ti44 : TI Try.prog 44 (.int .i64 0) 1 8 := by unfold TI; kernel_rfl
theorem sc44 : isScalar Try.prog 44 = true := by kernel_rfl
theorem ti46 : TI Try.prog 46 .nilFunc 1 8 := by unfold TI; kernel_rfl
theorem sc46 : isScalar Try.prog 46 = true := by kernel_rfl
theorem ti47 : TI Try.prog 47 .nilFunc 1 8 := by unfold TI; kernel_rfl
theorem sc47 : isScalar Try.prog 47 = true := by kernel_rfl
theorem ti48 : TI Try.prog 48 .nilFunc 1 8 := by unfold TI; kernel_rfl
theorem sc48 : isScalar Try.prog 48 = true := by kernel_rfl
theorem ti49 : TI Try.prog 49 .nilFunc 1 8 := by unfold TI; kernel_rfl
theorem sc49 : isScalar Try.prog 49 = true := by kernel_rfl
theorem ti50 : TI Try.prog 50 (.slice none 0 0) 1 24 := by unfold TI; kernel_rfl
theorem sc50 : isScalar Try.prog 50 = true := by kernel_rfl
theorem ti51 : TI Try.prog 51 (.slice none 0 0) 1 24 := by unfold TI; kernel_rfl
theorem sc51 : isScalar Try.prog 51 = true := by kernel_rfl
theorem ti52 : TI Try.prog 52 .nilFunc 1 8 := by unfold TI; kernel_rfl
theorem sc52 : isScalar Try.prog 52 = true := by kernel_rfl
theorem ti53 : TI Try.prog 53 (.agg #[(.string .empty), (.string .empty)]) 2 32 := by unfold TI; kernel_rfl
theorem ag53 : isAggT Try.prog 53 = true := by kernel_rfl
theorem bz53 : BZ Try.prog 53 [(.string .empty), (.string .empty)] [(0, 1), (1, 1)] := by unfold BZ; kernel_rfl
theorem ti54 : TI Try.prog 54 (.agg #[(.string .empty), (.string .empty)]) 2 32 := by unfold TI; kernel_rfl
theorem ag54 : isAggT Try.prog 54 = true := by kernel_rfl
theorem bz54 : BZ Try.prog 54 [(.string .empty), (.string .empty)] [(0, 1), (1, 1)] := by unfold BZ; kernel_rfl
theorem ti55 : TI Try.prog 55 .nilFunc 1 8 := by unfold TI; kernel_rfl
theorem sc55 : isScalar Try.prog 55 = true := by kernel_rfl
theorem ti56 : TI Try.prog 56 .nilFunc 1 8 := by unfold TI; kernel_rfl
theorem sc56 : isScalar Try.prog 56 = true := by kernel_rfl
theorem ti57 : TI Try.prog 57 (.slice none 0 0) 1 24 := by unfold TI; kernel_rfl
theorem sc57 : isScalar Try.prog 57 = true := by kernel_rfl
theorem ti58 : TI Try.prog 58 .nilFunc 1 8 := by unfold TI; kernel_rfl
theorem sc58 : isScalar Try.prog 58 = true := by kernel_rfl
theorem ti59 : TI Try.prog 59 (.slice none 0 0) 1 24 := by unfold TI; kernel_rfl
theorem sc59 : isScalar Try.prog 59 = true := by kernel_rfl
theorem ti60 : TI Try.prog 60 .nilFunc 1 8 := by unfold TI; kernel_rfl
theorem sc60 : isScalar Try.prog 60 = true := by kernel_rfl
theorem ti62 : TI Try.prog 62 .nilFunc 1 8 := by unfold TI; kernel_rfl
theorem sc62 : isScalar Try.prog 62 = true := by kernel_rfl
theorem ti63 : TI Try.prog 63 .nilFunc 1 8 := by unfold TI; kernel_rfl
theorem sc63 : isScalar Try.prog 63 = true := by kernel_rfl
theorem ti64 : TI Try.prog 64 .nilFunc 1 8 := by unfold TI; kernel_rfl
theorem sc64 : isScalar Try.prog 64 = true := by kernel_rfl
theorem ti65 : TI Try.prog 65 (.map none) 1 8 := by unfold TI; kernel_rfl
theorem sc65 : isScalar Try.prog 65 = true := by kernel_rfl
theorem ti66 : TI Try.prog 66 (.agg #[(.map none), (.int .i64 0)]) 2 16 := by unfold TI; kernel_rfl
theorem ag66 : isAggT Try.prog 66 = true := by kernel_rfl
theorem bz66 : BZ Try.prog 66 [(.map none), (.int .i64 0)] [(0, 1), (1, 1)] := by unfold BZ; kernel_rfl
theorem ti67 : TI Try.prog 67 (.agg #[(.map none), (.int .i64 0)]) 2 16 := by unfold TI; kernel_rfl
theorem ag67 : isAggT Try.prog 67 = true := by kernel_rfl
theorem bz67 : BZ Try.prog 67 [(.map none), (.int .i64 0)] [(0, 1), (1, 1)] := by unfold BZ; kernel_rfl
theorem ti68 : TI Try.prog 68 .nilFunc 1 8 := by unfold TI; kernel_rfl
theorem sc68 : isScalar Try.prog 68 = true := by kernel_rfl
theorem ti69 : TI Try.prog 69 .nilFunc 1 8 := by unfold TI; kernel_rfl
theorem sc69 : isScalar Try.prog 69 = true := by kernel_rfl
theorem ti70 : TI Try.prog 70 .nilFunc 1 8 := by unfold TI; kernel_rfl
theorem sc70 : isScalar Try.prog 70 = true := by kernel_rfl
theorem ti71 : TI Try.prog 71 .nilFunc 1 8 := by unfold TI; kernel_rfl
theorem sc71 : isScalar Try.prog 71 = true := by kernel_rfl
theorem ti72 : TI Try.prog 72 .nilFunc 1 8 := by unfold TI; kernel_rfl
theorem sc72 : isScalar Try.prog 72 = true := by kernel_rfl
theorem ti73 : TI Try.prog 73 (.int .u64 0) 1 8 := by unfold TI; kernel_rfl
theorem sc73 : isScalar Try.prog 73 = true := by kernel_rfl
theorem ti75 : TI Try.prog 75 .nilFunc 1 8 := by unfold TI; kernel_rfl
theorem sc75 : isScalar Try.prog 75 = true := by kernel_rfl
theorem ti77 : TI Try.prog 77 .nilFunc 1 8 := by unfold TI; kernel_rfl
theorem sc77 : isScalar Try.prog 77 = true := by kernel_rfl
theorem ti78 : TI Try.prog 78 .nilFunc 1 8 := by unfold TI; kernel_rfl
theorem sc78 : isScalar Try.prog 78 = true := by kernel_rfl
theorem ti79 : TI Try.prog 79 .nilFunc 1 8 := by unfold TI; kernel_rfl
theorem sc79 : isScalar Try.prog 79 = true := by kernel_rfl
theorem ti80 : TI Try.prog 80 .nilFunc 1 8 := by unfold TI; kernel_rfl
theorem sc80 : isScalar Try.prog 80 = true := by kernel_rfl
theorem ti81 : TI Try.prog 81 .nilFunc 1 8 := by unfold TI; kernel_rfl
theorem sc81 : isScalar Try.prog 81 = true := by kernel_rfl
theorem ti82 : TI Try.prog 82 .nilFunc 1 8 := by unfold TI; kernel_rfl
theorem sc82 : isScalar Try.prog 82 = true := by kernel_rfl
theorem ti83 : TI Try.prog 83 (.agg #[(.string .empty), (.string .empty), (.int .i64 0), (.string .empty), (.string .empty)]) 5 72 := by unfold TI; kernel_rfl
theorem ag83 : isAggT Try.prog 83 = true := by kernel_rfl
theorem bz83 : BZ Try.prog 83 [(.string .empty), (.string .empty), (.int .i64 0), (.string .empty), (.string .empty)] [(0, 1), (1, 1), (2, 1), (3, 1), (4, 1)] := by unfold BZ; kernel_rfl
theorem ti84 : TI Try.prog 84 (.agg #[(.string .empty), (.string .empty), (.int .i64 0), (.string .empty), (.string .empty)]) 5 72 := by unfold TI; kernel_rfl
theorem ag84 : isAggT Try.prog 84 = true := by kernel_rfl
theorem bz84 : BZ Try.prog 84 [(.string .empty), (.string .empty), (.int .i64 0), (.string .empty), (.string .empty)] [(0, 1), (1, 1), (2, 1), (3, 1), (4, 1)] := by unfold BZ; kernel_rfl
theorem ti86 : TI Try.prog 86 .nilFunc 1 8 := by unfold TI; kernel_rfl
theorem sc86 : isScalar Try.prog 86 = true := by kernel_rfl
theorem ti87 : TI Try.prog 87 .nilFunc 1 8 := by unfold TI; kernel_rfl
theorem sc87 : isScalar Try.prog 87 = true := by kernel_rfl
theorem ti88 : TI Try.prog 88 .nilFunc 1 8 := by unfold TI; kernel_rfl
theorem sc88 : isScalar Try.prog 88 = true := by kernel_rfl
theorem ti89 : TI Try.prog 89 .nilFunc 1 8 := by unfold TI; kernel_rfl
theorem sc89 : isScalar Try.prog 89 = true := by kernel_rfl
theorem ti90 : TI Try.prog 90 .nilFunc 1 8 := by unfold TI; kernel_rfl
theorem sc90 : isScalar Try.prog 90 = true := by kernel_rfl
theorem ti91 : TI Try.prog 91 (.slice none 0 0) 1 24 := by unfold TI; kernel_rfl
theorem sc91 : isScalar Try.prog 91 = true := by kernel_rfl
theorem ti92 : TI Try.prog 92 .nilFunc 1 8 := by unfold TI; kernel_rfl
theorem sc92 : isScalar Try.prog 92 = true := by kernel_rfl
theorem ti93 : TI Try.prog 93 .nilFunc 1 8 := by unfold TI; kernel_rfl
theorem sc93 : isScalar Try.prog 93 = true := by kernel_rfl
theorem ti94 : TI Try.prog 94 .nilFunc 1 8 := by unfold TI; kernel_rfl
theorem sc94 : isScalar Try.prog 94 = true := by kernel_rfl
theorem ti95 : TI Try.prog 95 .nilFunc 1 8 := by unfold TI; kernel_rfl
theorem sc95 : isScalar Try.prog 95 = true := by kernel_rfl
theorem ti96 : TI Try.prog 96 .nilFunc 1 8 := by unfold TI; kernel_rfl
theorem sc96 : isScalar Try.prog 96 = true := by kernel_rfl
theorem ti97 : TI Try.prog 97 .nilFunc 1 8 := by unfold TI; kernel_rfl
theorem sc97 : isScalar Try.prog 97 = true := by kernel_rfl
theorem ti98 : TI Try.prog 98 .nilFunc 1 8 := by unfold TI; kernel_rfl
theorem sc98 : isScalar Try.prog 98 = true := by kernel_rfl
theorem ti100 : TI Try.prog 100 .nilFunc 1 8 := by unfold TI; kernel_rfl
theorem sc100 : isScalar Try.prog 100 = true := by kernel_rfl
theorem ti101 : TI Try.prog 101 .nilFunc 1 8 := by unfold TI; kernel_rfl
theorem sc101 : isScalar Try.prog 101 = true := by kernel_rfl
theorem ti103 : TI Try.prog 103 .nilFunc 1 8 := by unfold TI; kernel_rfl
theorem sc103 : isScalar Try.prog 103 = true := by kernel_rfl
theorem ti104 : TI Try.prog 104 .nilFunc 1 8 := by unfold TI; kernel_rfl
theorem sc104 : isScalar Try.prog 104 = true := by kernel_rfl
theorem ti105 : TI Try.prog 105 .nilFunc 1 8 := by unfold TI; kernel_rfl
theorem sc105 : isScalar Try.prog 105 = true := by kernel_rfl
theorem ti106 : TI Try.prog 106 .nilFunc 1 8 := by unfold TI; kernel_rfl
theorem sc106 : isScalar Try.prog 106 = true := by kernel_rfl
theorem ti108 : TI Try.prog 108 .nilFunc 1 8 := by unfold TI; kernel_rfl
theorem sc108 : isScalar Try.prog 108 = true := by kernel_rfl
theorem ti109 : TI Try.prog 109 .nilFunc 1 8 := by unfold TI; kernel_rfl
theorem sc109 : isScalar Try.prog 109 = true := by kernel_rfl
theorem ti110 : TI Try.prog 110 .nilFunc 1 8 := by unfold TI; kernel_rfl
theorem sc110 : isScalar Try.prog 110 = true := by kernel_rfl
theorem ti111 : TI Try.prog 111 .nilFunc 1 8 := by unfold TI; kernel_rfl
theorem sc111 : isScalar Try.prog 111 = true := by kernel_rfl
theorem ti112 : TI Try.prog 112 .nilFunc 1 8 := by unfold TI; kernel_rfl
theorem sc112 : isScalar Try.prog 112 = true := by kernel_rfl
theorem ti113 : TI Try.prog 113 .nilFunc 1 8 := by unfold TI; kernel_rfl
theorem sc113 : isScalar Try.prog 113 = true := by kernel_rfl
theorem ti114 : TI Try.prog 114 .nilFunc 1 8 := by unfold TI; kernel_rfl
theorem sc114 : isScalar Try.prog 114 = true := by kernel_rfl
theorem ti115 : TI Try.prog 115 .nilFunc 1 8 := by unfold TI; kernel_rfl
theorem sc115 : isScalar Try.prog 115 = true := by kernel_rfl
theorem ti117 : TI Try.prog 117 .nilFunc 1 8 := by unfold TI; kernel_rfl
theorem sc117 : isScalar Try.prog 117 = true := by kernel_rfl
theorem ti118 : TI Try.prog 118 .nilFunc 1 8 := by unfold TI; kernel_rfl
theorem sc118 : isScalar Try.prog 118 = true := by kernel_rfl
theorem ti119 : TI Try.prog 119 .nilFunc 1 8 := by unfold TI; kernel_rfl
theorem sc119 : isScalar Try.prog 119 = true := by kernel_rfl
theorem ti120 : TI Try.prog 120 .nilFunc 1 8 := by unfold TI; kernel_rfl
theorem sc120 : isScalar Try.prog 120 = true := by kernel_rfl
theorem ti121 : TI Try.prog 121 (.int .u64 0) 1 8 := by unfold TI; kernel_rfl
theorem sc121 : isScalar Try.prog 121 = true := by kernel_rfl
theorem ti122 : TI Try.prog 122 (.pointer none) 1 8 := by unfold TI; kernel_rfl
theorem sc122 : isScalar Try.prog 122 = true := by kernel_rfl
theorem ti123 : TI Try.prog 123 (.agg #[(.slice none 0 0), (.int .i64 0), (.bool false)]) 3 40 := by unfold TI; kernel_rfl
theorem ag123 : isAggT Try.prog 123 = true := by kernel_rfl
theorem bz123 : BZ Try.prog 123 [(.slice none 0 0), (.int .i64 0), (.bool false)] [(0, 1), (1, 1), (2, 1)] := by unfold BZ; kernel_rfl
theorem ti124 : TI Try.prog 124 (.agg #[(.slice none 0 0), (.int .i64 0), (.bool false)]) 3 40 := by unfold TI; kernel_rfl
theorem ag124 : isAggT Try.prog 124 = true := by kernel_rfl
theorem bz124 : BZ Try.prog 124 [(.slice none 0 0), (.int .i64 0), (.bool false)] [(0, 1), (1, 1), (2, 1)] := by unfold BZ; kernel_rfl
theorem ti125 : TI Try.prog 125 .nilFunc 1 8 := by unfold TI; kernel_rfl
theorem sc125 : isScalar Try.prog 125 = true := by kernel_rfl
theorem ti126 : TI Try.prog 126 .nilFunc 1 8 := by unfold TI; kernel_rfl
theorem sc126 : isScalar Try.prog 126 = true := by kernel_rfl
theorem ti127 : TI Try.prog 127 .nilFunc 1 8 := by unfold TI; kernel_rfl
theorem sc127 : isScalar Try.prog 127 = true := by kernel_rfl
theorem ti128 : TI Try.prog 128 (.agg #[(.int .i64 0), (.int .i64 0), (.string .empty), (.bool false)]) 4 40 := by unfold TI; kernel_rfl
theorem ag128 : isAggT Try.prog 128 = true := by kernel_rfl
theorem bz128 : BZ Try.prog 128 [(.int .i64 0), (.int .i64 0), (.string .empty), (.bool false)] [(0, 1), (1, 1), (2, 1), (3, 1)] := by unfold BZ; kernel_rfl
theorem ti129 : TI Try.prog 129 (.agg #[(.int .i64 0), (.int .i64 0), (.string .empty), (.bool false)]) 4 40 := by unfold TI; kernel_rfl
theorem ag129 : isAggT Try.prog 129 = true := by kernel_rfl
theorem bz129 : BZ Try.prog 129 [(.int .i64 0), (.int .i64 0), (.string .empty), (.bool false)] [(0, 1), (1, 1), (2, 1), (3, 1)] := by unfold BZ; kernel_rfl
theorem ti130 : TI Try.prog 130 .nilFunc 1 8 := by unfold TI; kernel_rfl
theorem sc130 : isScalar Try.prog 130 = true := by kernel_rfl
theorem ti131 : TI Try.prog 131 .nilFunc 1 8 := by unfold TI; kernel_rfl
theorem sc131 : isScalar Try.prog 131 = true := by kernel_rfl
theorem ti132 : TI Try.prog 132 (.slice none 0 0) 1 24 := by unfold TI; kernel_rfl
theorem sc132 : isScalar Try.prog 132 = true := by kernel_rfl
theorem ti133 : TI Try.prog 133 .nilFunc 1 8 := by unfold TI; kernel_rfl
theorem sc133 : isScalar Try.prog 133 = true := by kernel_rfl
theorem ti134 : TI Try.prog 134 .nilFunc 1 8 := by unfold TI; kernel_rfl
theorem sc134 : isScalar Try.prog 134 = true := by kernel_rfl
theorem ti135 : TI Try.prog 135 .nilFunc 1 8 := by unfold TI; kernel_rfl
theorem sc135 : isScalar Try.prog 135 = true := by kernel_rfl
theorem ti136 : TI Try.prog 136 (.int .i64 0) 1 8 := by unfold TI; kernel_rfl
theorem sc136 : isScalar Try.prog 136 = true := by kernel_rfl
theorem ti138 : TI Try.prog 138 .nilFunc 1 8 := by unfold TI; kernel_rfl
theorem sc138 : isScalar Try.prog 138 = true := by kernel_rfl
theorem ti139 : TI Try.prog 139 .nilFunc 1 8 := by unfold TI; kernel_rfl
theorem sc139 : isScalar Try.prog 139 = true := by kernel_rfl
theorem ti140 : TI Try.prog 140 .nilFunc 1 8 := by unfold TI; kernel_rfl
theorem sc140 : isScalar Try.prog 140 = true := by kernel_rfl
theorem ti141 : TI Try.prog 141 .nilFunc 1 8 := by unfold TI; kernel_rfl
theorem sc141 : isScalar Try.prog 141 = true := by kernel_rfl
theorem ti142 : TI Try.prog 142 .nilFunc 1 8 := by unfold TI; kernel_rfl
theorem sc142 : isScalar Try.prog 142 = true := by kernel_rfl
theorem ti143 : TI Try.prog 143 .nilFunc 1 8 := by unfold TI; kernel_rfl
theorem sc143 : isScalar Try.prog 143 = true := by kernel_rfl
theorem ti144 : TI Try.prog 144 (.int .u32 0) 1 4 := by unfold TI; kernel_rfl
theorem sc144 : isScalar Try.prog 144 = true := by kernel_rfl
theorem ti145 : TI Try.prog 145 .nilFunc 1 8 := by unfold TI; kernel_rfl
theorem sc145 : isScalar Try.prog 145 = true := by kernel_rfl
theorem ti146 : TI Try.prog 146 .nilFunc 1 8 := by unfold TI; kernel_rfl
theorem sc146 : isScalar Try.prog 146 = true := by kernel_rfl
theorem ti147 : TI Try.prog 147 .nilFunc 1 8 := by unfold TI; kernel_rfl
theorem sc147 : isScalar Try.prog 147 = true := by kernel_rfl
theorem ti148 : TI Try.prog 148 .nilFunc 1 8 := by unfold TI; kernel_rfl
theorem sc148 : isScalar Try.prog 148 = true := by kernel_rfl
theorem ti150 : TI Try.prog 150 .nilFunc 1 8 := by unfold TI; kernel_rfl
theorem sc150 : isScalar Try.prog 150 = true := by kernel_rfl
theorem ti151 : TI Try.prog 151 .nilFunc 1 8 := by unfold TI; kernel_rfl
theorem sc151 : isScalar Try.prog 151 = true := by kernel_rfl
theorem ti152 : TI Try.prog 152 (.int .u64 0) 1 8 := by unfold TI; kernel_rfl
theorem sc152 : isScalar Try.prog 152 = true := by kernel_rfl
theorem ti153 : TI Try.prog 153 .nilFunc 1 8 := by unfold TI; kernel_rfl
theorem sc153 : isScalar Try.prog 153 = true := by kernel_rfl
theorem ti154 : TI Try.prog 154 .nilFunc 1 8 := by unfold TI; kernel_rfl
theorem sc154 : isScalar Try.prog 154 = true := by kernel_rfl
theorem ti155 : TI Try.prog 155 .nilFunc 1 8 := by unfold TI; kernel_rfl
theorem sc155 : isScalar Try.prog 155 = true := by kernel_rfl
theorem ti156 : TI Try.prog 156 (.pointer none) 1 8 := by unfold TI; kernel_rfl
theorem sc156 : isScalar Try.prog 156 = true := by kernel_rfl
theorem ti157 : TI Try.prog 157 .nilFunc 1 8 := by unfold TI; kernel_rfl
theorem sc157 : isScalar Try.prog 157 = true := by kernel_rfl
theorem ti159 : TI Try.prog 159 .nilFunc 1 8 := by unfold TI; kernel_rfl
theorem sc159 : isScalar Try.prog 159 = true := by kernel_rfl
theorem ti160 : TI Try.prog 160 (.pointer none) 1 8 := by unfold TI; kernel_rfl
theorem sc160 : isScalar Try.prog 160 = true := by kernel_rfl
theorem ti162 : TI Try.prog 162 .nilFunc 1 8 := by unfold TI; kernel_rfl
theorem sc162 : isScalar Try.prog 162 = true := by kernel_rfl
theorem ti163 : TI Try.prog 163 (.agg #[(.pointer none), (.pointer none), (.pointer none), (.string .empty)]) 4 40 := by unfold TI; kernel_rfl
theorem ag163 : isAggT Try.prog 163 = true := by kernel_rfl
theorem bz163 : BZ Try.prog 163 [(.pointer none), (.pointer none), (.pointer none), (.string .empty)] [(0, 1), (1, 1), (2, 1), (3, 1)] := by unfold BZ; kernel_rfl
theorem ti164 : TI Try.prog 164 (.agg #[(.pointer none), (.pointer none), (.pointer none), (.string .empty)]) 4 40 := by unfold TI; kernel_rfl
theorem ag164 : isAggT Try.prog 164 = true := by kernel_rfl
theorem bz164 : BZ Try.prog 164 [(.pointer none), (.pointer none), (.pointer none), (.string .empty)] [(0, 1), (1, 1), (2, 1), (3, 1)] := by unfold BZ; kernel_rfl
theorem ti165 : TI Try.prog 165 (.agg #[]) 0 0 := by unfold TI; kernel_rfl
theorem ag165 : isAggT Try.prog 165 = true := by kernel_rfl
theorem ti166 : TI Try.prog 166 (.agg #[]) 0 0 := by unfold TI; kernel_rfl
theorem ag166 : isAggT Try.prog 166 = true := by kernel_rfl
theorem bz166 : BZ Try.prog 166 [] [(0, 0)] := by unfold BZ; kernel_rfl
theorem ti167 : TI Try.prog 167 (.agg #[]) 0 0 := by unfold TI; kernel_rfl
theorem ag167 : isAggT Try.prog 167 = true := by kernel_rfl
theorem bz167 : BZ Try.prog 167 [] [(0, 0)] := by unfold BZ; kernel_rfl
theorem ti168 : TI Try.prog 168 (.int .u8 0) 1 1 := by unfold TI; kernel_rfl
theorem sc168 : isScalar Try.prog 168 = true := by kernel_rfl
theorem ti169 : TI Try.prog 169 (.int .u8 0) 1 1 := by unfold TI; kernel_rfl
theorem sc169 : isScalar Try.prog 169 = true := by kernel_rfl
theorem ti170 : TI Try.prog 170 .nilFunc 1 8 := by unfold TI; kernel_rfl
theorem sc170 : isScalar Try.prog 170 = true := by kernel_rfl
theorem ti171 : TI Try.prog 171 (.pointer none) 1 8 := by unfold TI; kernel_rfl
theorem sc171 : isScalar Try.prog 171 = true := by kernel_rfl
theorem ti172 : TI Try.prog 172 (.int .i32 0) 1 4 := by unfold TI; kernel_rfl
theorem sc172 : isScalar Try.prog 172 = true := by kernel_rfl
theorem ti173 : TI Try.prog 173 (.int .i32 0) 1 4 := by unfold TI; kernel_rfl
theorem sc173 : isScalar Try.prog 173 = true := by kernel_rfl
theorem ti174 : TI Try.prog 174 (.agg #[(.int .u64 0), (.int .u64 0), (.int .u32 0), (.int .u8 0), (.int .u8 0), (.int .u8 0), (.int .u8 0), .nilFunc, (.pointer none), (.int .i32 0), (.int .i32 0)]) 11 48 := by unfold TI; kernel_rfl
theorem ag174 : isAggT Try.prog 174 = true := by kernel_rfl
theorem bz174 : BZ Try.prog 174 [(.int .u64 0), (.int .u64 0), (.int .u32 0), (.int .u8 0), (.int .u8 0), (.int .u8 0), (.int .u8 0), .nilFunc, (.pointer none), (.int .i32 0), (.int .i32 0)] [(0, 1), (1, 1), (2, 1), (3, 1), (4, 1), (5, 1), (6, 1), (7, 1), (8, 1), (9, 1), (10, 1)] := by unfold BZ; kernel_rfl
theorem ti175 : TI Try.prog 175 (.agg #[(.int .u64 0), (.int .u64 0), (.int .u32 0), (.int .u8 0), (.int .u8 0), (.int .u8 0), (.int .u8 0), .nilFunc, (.pointer none), (.int .i32 0), (.int .i32 0)]) 11 48 := by unfold TI; kernel_rfl
theorem ag175 : isAggT Try.prog 175 = true := by kernel_rfl
theorem bz175 : BZ Try.prog 175 [(.int .u64 0), (.int .u64 0), (.int .u32 0), (.int .u8 0), (.int .u8 0), (.int .u8 0), (.int .u8 0), .nilFunc, (.pointer none), (.int .i32 0), (.int .i32 0)] [(0, 1), (1, 1), (2, 1), (3, 1), (4, 1), (5, 1), (6, 1), (7, 1), (8, 1), (9, 1), (10, 1)] := by unfold BZ; kernel_rfl
theorem ti176 : TI Try.prog 176 (.pointer none) 1 8 := by unfold TI; kernel_rfl
theorem sc176 : isScalar Try.prog 176 = true := by kernel_rfl
theorem con1 : Try.prog.concrete 1 = true := by kernel_rfl
theorem con2 : Try.prog.concrete 2 = true := by kernel_rfl
theorem con3 : Try.prog.concrete 3 = true := by kernel_rfl
theorem con4 : Try.prog.concrete 4 = true := by kernel_rfl
theorem con5 : Try.prog.concrete 5 = true := by kernel_rfl
theorem con6 : Try.prog.concrete 6 = true := by kernel_rfl
theorem con7 : Try.prog.concrete 7 = true := by kernel_rfl
theorem con8 : Try.prog.concrete 8 = true := by kernel_rfl
theorem con9 : Try.prog.concrete 9 = true := by kernel_rfl
theorem con10 : Try.prog.concrete 10 = true := by kernel_rfl
theorem con11 : Try.prog.concrete 11 = true := by kernel_rfl
theorem con12 : Try.prog.concrete 12 = true := by kernel_rfl
theorem con13 : Try.prog.concrete 13 = true := by kernel_rfl
theorem con14 : Try.prog.concrete 14 = true := by kernel_rfl
theorem con15 : Try.prog.concrete 15 = true := by kernel_rfl
theorem con16 : Try.prog.concrete 16 = true := by kernel_rfl
theorem con17 : Try.prog.concrete 17 = true := by kernel_rfl
theorem con18 : Try.prog.concrete 18 = true := by kernel_rfl
theorem con19 : Try.prog.concrete 19 = true := by kernel_rfl
theorem con21 : Try.prog.concrete 21 = true := by kernel_rfl
theorem con22 : Try.prog.concrete 22 = true := by kernel_rfl
theorem con23 : Try.prog.concrete 23 = true := by kernel_rfl
theorem con24 : Try.prog.concrete 24 = true := by kernel_rfl
theorem con25 : Try.prog.concrete 25 = true := by kernel_rfl
theorem con26 : Try.prog.concrete 26 = true := by kernel_rfl
theorem con28 : Try.prog.concrete 28 = true := by kernel_rfl
theorem con29 : Try.prog.concrete 29 = true := by kernel_rfl
theorem con30 : Try.prog.concrete 30 = true := by kernel_rfl
theorem con31 : Try.prog.concrete 31 = true := by kernel_rfl
theorem con32 : Try.prog.concrete 32 = true := by kernel_rfl
theorem con33 : Try.prog.concrete 33 = true := by kernel_rfl
theorem con34 : Try.prog.concrete 34 = true := by kernel_rfl
theorem con35 : Try.prog.concrete 35 = true := by kernel_rfl
theorem con36 : Try.prog.concrete 36 = true := by kernel_rfl
theorem con37 : Try.prog.concrete 37 = true := by kernel_rfl
theorem con38 : Try.prog.concrete 38 = true := by kernel_rfl
theorem con40 : Try.prog.concrete 40 = true := by kernel_rfl
theorem con41 : Try.prog.concrete 41 = true := by kernel_rfl
theorem con42 : Try.prog.concrete 42 = true := by kernel_rfl
theorem con43 : Try.prog.concrete 43 = true := by kernel_rfl
theorem con44 : Try.prog.concrete 44 = true := by kernel_rfl
theorem con46 : Try.prog.concrete 46 = true := by kernel_rfl
theorem con47 : Try.prog.concrete 47 = true := by kernel_rfl
theorem con48 : Try.prog.concrete 48 = true := by kernel_rfl
theorem con49 : Try.prog.concrete 49 = true := by kernel_rfl
theorem con50 : Try.prog.concrete 50 = true := by kernel_rfl
theorem con51 : Try.prog.concrete 51 = true := by kernel_rfl
theorem con52 : Try.prog.concrete 52 = true := by kernel_rfl
theorem con53 : Try.prog.concrete 53 = true := by kernel_rfl
theorem con54 : Try.prog.concrete 54 = true := by kernel_rfl
theorem con55 : Try.prog.concrete 55 = true := by kernel_rfl
theorem con56 : Try.prog.concrete 56 = true := by kernel_rfl
theorem con57 : Try.prog.concrete 57 = true := by kernel_rfl
theorem con58 : Try.prog.concrete 58 = true := by kernel_rfl
theorem con59 : Try.prog.concrete 59 = true := by kernel_rfl
theorem con60 : Try.prog.concrete 60 = true := by kernel_rfl
theorem con62 : Try.prog.concrete 62 = true := by kernel_rfl
theorem con63 : Try.prog.concrete 63 = true := by kernel_rfl
theorem con64 : Try.prog.concrete 64 = true := by kernel_rfl
theorem con65 : Try.prog.concrete 65 = true := by kernel_rfl
theorem con66 : Try.prog.concrete 66 = true := by kernel_rfl
theorem con67 : Try.prog.concrete 67 = true := by kernel_rfl
theorem con68 : Try.prog.concrete 68 = true := by kernel_rfl
theorem con69 : Try.prog.concrete 69 = true := by kernel_rfl
theorem con70 : Try.prog.concrete 70 = true := by kernel_rfl
theorem con71 : Try.prog.concrete 71 = true := by kernel_rfl
theorem con72 : Try.prog.concrete 72 = true := by kernel_rfl
theorem con73 : Try.prog.concrete 73 = true := by kernel_rfl
theorem con75 : Try.prog.concrete 75 = true := by kernel_rfl
theorem con77 : Try.prog.concrete 77 = true := by kernel_rfl
theorem con78 : Try.prog.concrete 78 = true := by kernel_rfl
theorem con79 : Try.prog.concrete 79 = true := by kernel_rfl
theorem con80 : Try.prog.concrete 80 = true := by kernel_rfl
theorem con81 : Try.prog.concrete 81 = true := by kernel_rfl
theorem con82 : Try.prog.concrete 82 = true := by kernel_rfl
theorem con83 : Try.prog.concrete 83 = true := by kernel_rfl
theorem con84 : Try.prog.concrete 84 = true := by kernel_rfl
theorem con86 : Try.prog.concrete 86 = true := by kernel_rfl
theorem con87 : Try.prog.concrete 87 = true := by kernel_rfl
theorem con88 : Try.prog.concrete 88 = true := by kernel_rfl
theorem con89 : Try.prog.concrete 89 = true := by kernel_rfl
theorem con90 : Try.prog.concrete 90 = true := by kernel_rfl
theorem con91 : Try.prog.concrete 91 = true := by kernel_rfl
theorem con92 : Try.prog.concrete 92 = true := by kernel_rfl
theorem con93 : Try.prog.concrete 93 = true := by kernel_rfl
theorem con94 : Try.prog.concrete 94 = true := by kernel_rfl
theorem con95 : Try.prog.concrete 95 = true := by kernel_rfl
theorem con96 : Try.prog.concrete 96 = true := by kernel_rfl
theorem con97 : Try.prog.concrete 97 = true := by kernel_rfl
theorem con98 : Try.prog.concrete 98 = true := by kernel_rfl
theorem con100 : Try.prog.concrete 100 = true := by kernel_rfl
theorem con101 : Try.prog.concrete 101 = true := by kernel_rfl
theorem con103 : Try.prog.concrete 103 = true := by kernel_rfl
theorem con104 : Try.prog.concrete 104 = true := by kernel_rfl
theorem con105 : Try.prog.concrete 105 = true := by kernel_rfl
theorem con106 : Try.prog.concrete 106 = true := by kernel_rfl
theorem con108 : Try.prog.concrete 108 = true := by kernel_rfl
theorem con109 : Try.prog.concrete 109 = true := by kernel_rfl
theorem con110 : Try.prog.concrete 110 = true := by kernel_rfl
theorem con111 : Try.prog.concrete 111 = true := by kernel_rfl
theorem con112 : Try.prog.concrete 112 = true := by kernel_rfl
theorem con113 : Try.prog.concrete 113 = true := by kernel_rfl
theorem con114 : Try.prog.concrete 114 = true := by kernel_rfl
theorem con115 : Try.prog.concrete 115 = true := by kernel_rfl
theorem con117 : Try.prog.concrete 117 = true := by kernel_rfl
theorem con118 : Try.prog.concrete 118 = true := by kernel_rfl
theorem con119 : Try.prog.concrete 119 = true := by kernel_rfl
theorem con120 : Try.prog.concrete 120 = true := by kernel_rfl
theorem con121 : Try.prog.concrete 121 = true := by kernel_rfl
theorem con122 : Try.prog.concrete 122 = true := by kernel_rfl
theorem con123 : Try.prog.concrete 123 = true := by kernel_rfl
theorem con124 : Try.prog.concrete 124 = true := by kernel_rfl
theorem con125 : Try.prog.concrete 125 = true := by kernel_rfl
theorem con126 : Try.prog.concrete 126 = true := by kernel_rfl
theorem con127 : Try.prog.concrete 127 = true := by kernel_rfl
theorem con128 : Try.prog.concrete 128 = true := by kernel_rfl
theorem con129 : Try.prog.concrete 129 = true := by kernel_rfl
theorem con130 : Try.prog.concrete 130 = true := by kernel_rfl
theorem con131 : Try.prog.concrete 131 = true := by kernel_rfl
theorem con132 : Try.prog.concrete 132 = true := by kernel_rfl
theorem con133 : Try.prog.concrete 133 = true := by kernel_rfl
theorem con134 : Try.prog.concrete 134 = true := by kernel_rfl
theorem con135 : Try.prog.concrete 135 = true := by kernel_rfl
theorem con136 : Try.prog.concrete 136 = true := by kernel_rfl
theorem con138 : Try.prog.concrete 138 = true := by kernel_rfl
theorem con139 : Try.prog.concrete 139 = true := by kernel_rfl
theorem con140 : Try.prog.concrete 140 = true := by kernel_rfl
theorem con141 : Try.prog.concrete 141 = true := by kernel_rfl
theorem con142 : Try.prog.concrete 142 = true := by kernel_rfl
theorem con143 : Try.prog.concrete 143 = true := by kernel_rfl
theorem con144 : Try.prog.concrete 144 = true := by kernel_rfl
theorem con145 : Try.prog.concrete 145 = true := by kernel_rfl
theorem con146 : Try.prog.concrete 146 = true := by kernel_rfl
theorem con147 : Try.prog.concrete 147 = true := by kernel_rfl
theorem con148 : Try.prog.concrete 148 = true := by kernel_rfl
theorem con150 : Try.prog.concrete 150 = true := by kernel_rfl
theorem con151 : Try.prog.concrete 151 = true := by kernel_rfl
theorem con152 : Try.prog.concrete 152 = true := by kernel_rfl
theorem con153 : Try.prog.concrete 153 = true := by kernel_rfl
theorem con154 : Try.prog.concrete 154 = true := by kernel_rfl
theorem con155 : Try.prog.concrete 155 = true := by kernel_rfl
theorem con156 : Try.prog.concrete 156 = true := by kernel_rfl
theorem con157 : Try.prog.concrete 157 = true := by kernel_rfl
theorem con159 : Try.prog.concrete 159 = true := by kernel_rfl
theorem con160 : Try.prog.concrete 160 = true := by kernel_rfl
theorem con162 : Try.prog.concrete 162 = true := by kernel_rfl
theorem con163 : Try.prog.concrete 163 = true := by kernel_rfl
theorem con164 : Try.prog.concrete 164 = true := by kernel_rfl
theorem con165 : Try.prog.concrete 165 = true := by kernel_rfl
theorem con166 : Try.prog.concrete 166 = true := by kernel_rfl
theorem con167 : Try.prog.concrete 167 = true := by kernel_rfl
theorem con168 : Try.prog.concrete 168 = true := by kernel_rfl
theorem con169 : Try.prog.concrete 169 = true := by kernel_rfl
theorem con170 : Try.prog.concrete 170 = true := by kernel_rfl
theorem con171 : Try.prog.concrete 171 = true := by kernel_rfl
theorem con172 : Try.prog.concrete 172 = true := by kernel_rfl
theorem con173 : Try.prog.concrete 173 = true := by kernel_rfl
theorem con174 : Try.prog.concrete 174 = true := by kernel_rfl
theorem con175 : Try.prog.concrete 175 = true := by kernel_rfl
theorem con176 : Try.prog.concrete 176 = true := by kernel_rfl
theorem call3 : Callable Try.prog 3 := ⟨Try.f3, Try.func3, by kernel_rfl, by kernel_rfl⟩
theorem call4 : Callable Try.prog 4 := ⟨Try.f4, Try.func4, by kernel_rfl, by kernel_rfl⟩
theorem call5 : Callable Try.prog 5 := ⟨Try.f5, Try.func5, by kernel_rfl, by kernel_rfl⟩
theorem call6 : Callable Try.prog 6 := ⟨Try.f6, Try.func6, by kernel_rfl, by kernel_rfl⟩
theorem call7 : Callable Try.prog 7 := ⟨Try.f7, Try.func7, by kernel_rfl, by kernel_rfl⟩
theorem call8 : Callable Try.prog 8 := ⟨Try.f8, Try.func8, by kernel_rfl, by kernel_rfl⟩
theorem call9 : Callable Try.prog 9 := ⟨Try.f9, Try.func9, by kernel_rfl, by kernel_rfl⟩
theorem call10 : Callable Try.prog 10 := ⟨Try.f10, Try.func10, by kernel_rfl, by kernel_rfl⟩
theorem call11 : Callable Try.prog 11 := ⟨Try.f11, Try.func11, by kernel_rfl, by kernel_rfl⟩
theorem call12 : Callable Try.prog 12 := ⟨Try.f12, Try.func12, by kernel_rfl, by kernel_rfl⟩
theorem call13 : Callable Try.prog 13 := ⟨Try.f13, Try.func13, by kernel_rfl, by kernel_rfl⟩
theorem call14 : Callable Try.prog 14 := ⟨Try.f14, Try.func14, by kernel_rfl, by kernel_rfl⟩
theorem call15 : Callable Try.prog 15 := ⟨Try.f15, Try.func15, by kernel_rfl, by kernel_rfl⟩
theorem call16 : Callable Try.prog 16 := ⟨Try.f16, Try.func16, by kernel_rfl, by kernel_rfl⟩
theorem call17 : Callable Try.prog 17 := ⟨Try.f17, Try.func17, by kernel_rfl, by kernel_rfl⟩
theorem call18 : Callable Try.prog 18 := ⟨Try.f18, Try.func18, by kernel_rfl, by kernel_rfl⟩
theorem call19 : Callable Try.prog 19 := ⟨Try.f19, Try.func19, by kernel_rfl, by kernel_rfl⟩
theorem call20 : Callable Try.prog 20 := ⟨Try.f20, Try.func20, by kernel_rfl, by kernel_rfl⟩
theorem call21 : Callable Try.prog 21 := ⟨Try.f21, Try.func21, by kernel_rfl, by kernel_rfl⟩
theorem call22 : Callable Try.prog 22 := ⟨Try.f22, Try.func22, by kernel_rfl, by kernel_rfl⟩
theorem call23 : Callable Try.prog 23 := ⟨Try.f23, Try.func23, by kernel_rfl, by kernel_rfl⟩
theorem call24 : Callable Try.prog 24 := ⟨Try.f24, Try.func24, by kernel_rfl, by kernel_rfl⟩
theorem call25 : Callable Try.prog 25 := ⟨Try.f25, Try.func25, by kernel_rfl, by kernel_rfl⟩
theorem call26 : Callable Try.prog 26 := ⟨Try.f26, Try.func26, by kernel_rfl, by kernel_rfl⟩
theorem call27 : Callable Try.prog 27 := ⟨Try.f27, Try.func27, by kernel_rfl, by kernel_rfl⟩
theorem call28 : Callable Try.prog 28 := ⟨Try.f28, Try.func28, by kernel_rfl, by kernel_rfl⟩
theorem call29 : Callable Try.prog 29 := ⟨Try.f29, Try.func29, by kernel_rfl, by kernel_rfl⟩
theorem call30 : Callable Try.prog 30 := ⟨Try.f30, Try.func30, by kernel_rfl, by kernel_rfl⟩
theorem call31 : Callable Try.prog 31 := ⟨Try.f31, Try.func31, by kernel_rfl, by kernel_rfl⟩
theorem call32 : Callable Try.prog 32 := ⟨Try.f32, Try.func32, by kernel_rfl, by kernel_rfl⟩
theorem call33 : Callable Try.prog 33 := ⟨Try.f33, Try.func33, by kernel_rfl, by kernel_rfl⟩
theorem call34 : Callable Try.prog 34 := ⟨Try.f34, Try.func34, by kernel_rfl, by kernel_rfl⟩
theorem call35 : Callable Try.prog 35 := ⟨Try.f35, Try.func35, by kernel_rfl, by kernel_rfl⟩
theorem call36 : Callable Try.prog 36 := ⟨Try.f36, Try.func36, by kernel_rfl, by kernel_rfl⟩
theorem call37 : Callable Try.prog 37 := ⟨Try.f37, Try.func37, by kernel_rfl, by kernel_rfl⟩
theorem call38 : Callable Try.prog 38 := ⟨Try.f38, Try.func38, by kernel_rfl, by kernel_rfl⟩
theorem call39 : Callable Try.prog 39 := ⟨Try.f39, Try.func39, by kernel_rfl, by kernel_rfl⟩
theorem call40 : Callable Try.prog 40 := ⟨Try.f40, Try.func40, by kernel_rfl, by kernel_rfl⟩
theorem call41 : Callable Try.prog 41 := ⟨Try.f41, Try.func41, by kernel_rfl, by kernel_rfl⟩
theorem call42 : Callable Try.prog 42 := ⟨Try.f42, Try.func42, by kernel_rfl, by kernel_rfl⟩
theorem call43 : Callable Try.prog 43 := ⟨Try.f43, Try.func43, by kernel_rfl, by kernel_rfl⟩
theorem call44 : Callable Try.prog 44 := ⟨Try.f44, Try.func44, by kernel_rfl, by kernel_rfl⟩
theorem call45 : Callable Try.prog 45 := ⟨Try.f45, Try.func45, by kernel_rfl, by kernel_rfl⟩
theorem call46 : Callable Try.prog 46 := ⟨Try.f46, Try.func46, by kernel_rfl, by kernel_rfl⟩
theorem call47 : Callable Try.prog 47 := ⟨Try.f47, Try.func47, by kernel_rfl, by kernel_rfl⟩
theorem call48 : Callable Try.prog 48 := ⟨Try.f48, Try.func48, by kernel_rfl, by kernel_rfl⟩
theorem call49 : Callable Try.prog 49 := ⟨Try.f49, Try.func49, by kernel_rfl, by kernel_rfl⟩
theorem call50 : Callable Try.prog 50 := ⟨Try.f50, Try.func50, by kernel_rfl, by kernel_rfl⟩
theorem call51 : Callable Try.prog 51 := ⟨Try.f51, Try.func51, by kernel_rfl, by kernel_rfl⟩
theorem call52 : Callable Try.prog 52 := ⟨Try.f52, Try.func52, by kernel_rfl, by kernel_rfl⟩
theorem call53 : Callable Try.prog 53 := ⟨Try.f53, Try.func53, by kernel_rfl, by kernel_rfl⟩
theorem call54 : Callable Try.prog 54 := ⟨Try.f54, Try.func54, by kernel_rfl, by kernel_rfl⟩
theorem call55 : Callable Try.prog 55 := ⟨Try.f55, Try.func55, by kernel_rfl, by kernel_rfl⟩
theorem call56 : Callable Try.prog 56 := ⟨Try.f56, Try.func56, by kernel_rfl, by kernel_rfl⟩
theorem call57 : Callable Try.prog 57 := ⟨Try.f57, Try.func57, by kernel_rfl, by kernel_rfl⟩
theorem call58 : Callable Try.prog 58 := ⟨Try.f58, Try.func58, by kernel_rfl, by kernel_rfl⟩
theorem call59 : Callable Try.prog 59 := ⟨Try.f59, Try.func59, by kernel_rfl, by kernel_rfl⟩
theorem call60 : Callable Try.prog 60 := ⟨Try.f60, Try.func60, by kernel_rfl, by kernel_rfl⟩
theorem call61 : Callable Try.prog 61 := ⟨Try.f61, Try.func61, by kernel_rfl, by kernel_rfl⟩
theorem call62 : Callable Try.prog 62 := ⟨Try.f62, Try.func62, by kernel_rfl, by kernel_rfl⟩
theorem call63 : Callable Try.prog 63 := ⟨Try.f63, Try.func63, by kernel_rfl, by kernel_rfl⟩
theorem call64 : Callable Try.prog 64 := ⟨Try.f64, Try.func64, by kernel_rfl, by kernel_rfl⟩
theorem call65 : Callable Try.prog 65 := ⟨Try.f65, Try.func65, by kernel_rfl, by kernel_rfl⟩
theorem call66 : Callable Try.prog 66 := ⟨Try.f66, Try.func66, by kernel_rfl, by kernel_rfl⟩
theorem call67 : Callable Try.prog 67 := ⟨Try.f67, Try.func67, by kernel_rfl, by kernel_rfl⟩
theorem call68 : Callable Try.prog 68 := ⟨Try.f68, Try.func68, by kernel_rfl, by kernel_rfl⟩
theorem call69 : Callable Try.prog 69 := ⟨Try.f69, Try.func69, by kernel_rfl, by kernel_rfl⟩
theorem call70 : Callable Try.prog 70 := ⟨Try.f70, Try.func70, by kernel_rfl, by kernel_rfl⟩
theorem call71 : Callable Try.prog 71 := ⟨Try.f71, Try.func71, by kernel_rfl, by kernel_rfl⟩
theorem call72 : Callable Try.prog 72 := ⟨Try.f72, Try.func72, by kernel_rfl, by kernel_rfl⟩
theorem call73 : Callable Try.prog 73 := ⟨Try.f73, Try.func73, by kernel_rfl, by kernel_rfl⟩
theorem call74 : Callable Try.prog 74 := ⟨Try.f74, Try.func74, by kernel_rfl, by kernel_rfl⟩
theorem call75 : Callable Try.prog 75 := ⟨Try.f75, Try.func75, by kernel_rfl, by kernel_rfl⟩
theorem call76 : Callable Try.prog 76 := ⟨Try.f76, Try.func76, by kernel_rfl, by kernel_rfl⟩
theorem call77 : Callable Try.prog 77 := ⟨Try.f77, Try.func77, by kernel_rfl, by kernel_rfl⟩
theorem call78 : Callable Try.prog 78 := ⟨Try.f78, Try.func78, by kernel_rfl, by kernel_rfl⟩
theorem call79 : Callable Try.prog 79 := ⟨Try.f79, Try.func79, by kernel_rfl, by kernel_rfl⟩
theorem call80 : Callable Try.prog 80 := ⟨Try.f80, Try.func80, by kernel_rfl, by kernel_rfl⟩
theorem call81 : Callable Try.prog 81 := ⟨Try.f81, Try.func81, by kernel_rfl, by kernel_rfl⟩
theorem call82 : Callable Try.prog 82 := ⟨Try.f82, Try.func82, by kernel_rfl, by kernel_rfl⟩
theorem call83 : Callable Try.prog 83 := ⟨Try.f83, Try.func83, by kernel_rfl, by kernel_rfl⟩
theorem call84 : Callable Try.prog 84 := ⟨Try.f84, Try.func84, by kernel_rfl, by kernel_rfl⟩
theorem call85 : Callable Try.prog 85 := ⟨Try.f85, Try.func85, by kernel_rfl, by kernel_rfl⟩
theorem call86 : Callable Try.prog 86 := ⟨Try.f86, Try.func86, by kernel_rfl, by kernel_rfl⟩
theorem call87 : Callable Try.prog 87 := ⟨Try.f87, Try.func87, by kernel_rfl, by kernel_rfl⟩
theorem call88 : Callable Try.prog 88 := ⟨Try.f88, Try.func88, by kernel_rfl, by kernel_rfl⟩
theorem call89 : Callable Try.prog 89 := ⟨Try.f89, Try.func89, by kernel_rfl, by kernel_rfl⟩
theorem call90 : Callable Try.prog 90 := ⟨Try.f90, Try.func90, by kernel_rfl, by kernel_rfl⟩
theorem call91 : Callable Try.prog 91 := ⟨Try.f91, Try.func91, by kernel_rfl, by kernel_rfl⟩
theorem call92 : Callable Try.prog 92 := ⟨Try.f92, Try.func92, by kernel_rfl, by kernel_rfl⟩
theorem call93 : Callable Try.prog 93 := ⟨Try.f93, Try.func93, by kernel_rfl, by kernel_rfl⟩
theorem call94 : Callable Try.prog 94 := ⟨Try.f94, Try.func94, by kernel_rfl, by kernel_rfl⟩
theorem call95 : Callable Try.prog 95 := ⟨Try.f95, Try.func95, by kernel_rfl, by kernel_rfl⟩
theorem call96 : Callable Try.prog 96 := ⟨Try.f96, Try.func96, by kernel_rfl, by kernel_rfl⟩
theorem call97 : Callable Try.prog 97 := ⟨Try.f97, Try.func97, by kernel_rfl, by kernel_rfl⟩
theorem call98 : Callable Try.prog 98 := ⟨Try.f98, Try.func98, by kernel_rfl, by kernel_rfl⟩
theorem call99 : Callable Try.prog 99 := ⟨Try.f99, Try.func99, by kernel_rfl, by kernel_rfl⟩
theorem call100 : Callable Try.prog 100 := ⟨Try.f100, Try.func100, by kernel_rfl, by kernel_rfl⟩
theorem call101 : Callable Try.prog 101 := ⟨Try.f101, Try.func101, by kernel_rfl, by kernel_rfl⟩
theorem call102 : Callable Try.prog 102 := ⟨Try.f102, Try.func102, by kernel_rfl, by kernel_rfl⟩
theorem call103 : Callable Try.prog 103 := ⟨Try.f103, Try.func103, by kernel_rfl, by kernel_rfl⟩
theorem call104 : Callable Try.prog 104 := ⟨Try.f104, Try.func104, by kernel_rfl, by kernel_rfl⟩
theorem call105 : Callable Try.prog 105 := ⟨Try.f105, Try.func105, by kernel_rfl, by kernel_rfl⟩
theorem call106 : Callable Try.prog 106 := ⟨Try.f106, Try.func106, by kernel_rfl, by kernel_rfl⟩
theorem call107 : Callable Try.prog 107 := ⟨Try.f107, Try.func107, by kernel_rfl, by kernel_rfl⟩
theorem call108 : Callable Try.prog 108 := ⟨Try.f108, Try.func108, by kernel_rfl, by kernel_rfl⟩
theorem call109 : Callable Try.prog 109 := ⟨Try.f109, Try.func109, by kernel_rfl, by kernel_rfl⟩
end Go.Proofs.YtlmmpcdjkpibcaaX
