/- What the program's tables say of its types and functions: closed facts. -/
import Derived.Test.YtfdgnjbbchkgpaaDoorProg
import Derived.Test.YtfdgnjbbchkgpaaDoorXB
import Derived.KernelRfl
namespace Go.Proofs.YtfdgnjbbchkgpaaDoorX
open Go Go.Proofs
set_option maxRecDepth 100000

theorem follows : Tryd.prog.follows .mixedOrders = true := by kernel_rfl
theorem ti1 : TI Tryd.prog 1 .nilFunc 1 8 := by unfold TI; kernel_rfl
theorem sc1 : isScalar Tryd.prog 1 = true := by kernel_rfl
theorem ti2 : TI Tryd.prog 2 (.int .i64 0) 1 8 := by unfold TI; kernel_rfl
theorem sc2 : isScalar Tryd.prog 2 = true := by kernel_rfl
theorem ti3 : TI Tryd.prog 3 (.int .i64 0) 1 8 := by unfold TI; kernel_rfl
theorem sc3 : isScalar Tryd.prog 3 = true := by kernel_rfl
theorem ti4 : TI Tryd.prog 4 (.bool false) 1 1 := by unfold TI; kernel_rfl
theorem sc4 : isScalar Tryd.prog 4 = true := by kernel_rfl
theorem ti5 : TI Tryd.prog 5 (.int .u8 0) 1 1 := by unfold TI; kernel_rfl
theorem sc5 : isScalar Tryd.prog 5 = true := by kernel_rfl
theorem ti6 : TI Tryd.prog 6 (.int .u8 0) 1 1 := by unfold TI; kernel_rfl
theorem sc6 : isScalar Tryd.prog 6 = true := by kernel_rfl
theorem ti7 : TI Tryd.prog 7 (.agg #[(.int .i64 0), (.int .i64 0), (.bool false), (.int .u8 0)]) 4 24 := by unfold TI; kernel_rfl
theorem ag7 : isAggT Tryd.prog 7 = true := by kernel_rfl
theorem bz7 : BZ Tryd.prog 7 [(.int .i64 0), (.int .i64 0), (.bool false), (.int .u8 0)] [(0, 1), (1, 1), (2, 1), (3, 1)] := by unfold BZ; kernel_rfl
theorem ti8 : TI Tryd.prog 8 (.agg #[(.int .i64 0), (.int .i64 0), (.bool false), (.int .u8 0)]) 4 24 := by unfold TI; kernel_rfl
theorem ag8 : isAggT Tryd.prog 8 = true := by kernel_rfl
theorem bz8 : BZ Tryd.prog 8 [(.int .i64 0), (.int .i64 0), (.bool false), (.int .u8 0)] [(0, 1), (1, 1), (2, 1), (3, 1)] := by unfold BZ; kernel_rfl
theorem ti9 : TI Tryd.prog 9 (.string .empty) 1 16 := by unfold TI; kernel_rfl
theorem sc9 : isScalar Tryd.prog 9 = true := by kernel_rfl
theorem ti10 : TI Tryd.prog 10 (.string .empty) 1 16 := by unfold TI; kernel_rfl
theorem sc10 : isScalar Tryd.prog 10 = true := by kernel_rfl
theorem ti11 : TI Tryd.prog 11 (.string .empty) 1 16 := by unfold TI; kernel_rfl
theorem sc11 : isScalar Tryd.prog 11 = true := by kernel_rfl
theorem ti12 : TI Tryd.prog 12 (.int .u64 0) 1 8 := by unfold TI; kernel_rfl
theorem sc12 : isScalar Tryd.prog 12 = true := by kernel_rfl
theorem ti13 : TI Tryd.prog 13 (.agg #[(.string .empty), (.int .u64 0)]) 2 24 := by unfold TI; kernel_rfl
theorem ag13 : isAggT Tryd.prog 13 = true := by kernel_rfl
theorem bz13 : BZ Tryd.prog 13 [(.string .empty), (.int .u64 0)] [(0, 1), (1, 1)] := by unfold BZ; kernel_rfl
theorem ti14 : TI Tryd.prog 14 (.agg #[(.string .empty), (.int .u64 0)]) 2 24 := by unfold TI; kernel_rfl
theorem ag14 : isAggT Tryd.prog 14 = true := by kernel_rfl
theorem bz14 : BZ Tryd.prog 14 [(.string .empty), (.int .u64 0)] [(0, 1), (1, 1)] := by unfold BZ; kernel_rfl
theorem ti15 : TI Tryd.prog 15 (.pointer none) 1 8 := by unfold TI; kernel_rfl
theorem sc15 : isScalar Tryd.prog 15 = true := by kernel_rfl
theorem ti16 : TI Tryd.prog 16 (.pointer none) 1 8 := by unfold TI; kernel_rfl
theorem sc16 : isScalar Tryd.prog 16 = true := by kernel_rfl
theorem ti17 : TI Tryd.prog 17 (.pointer none) 1 8 := by unfold TI; kernel_rfl
theorem sc17 : isScalar Tryd.prog 17 = true := by kernel_rfl
theorem ti18 : TI Tryd.prog 18 (.agg #[(.pointer none)]) 1 8 := by unfold TI; kernel_rfl
theorem ag18 : isAggT Tryd.prog 18 = true := by kernel_rfl
theorem bz18 : BZ Tryd.prog 18 [(.pointer none)] [(0, 1)] := by unfold BZ; kernel_rfl
theorem ti19 : TI Tryd.prog 19 (.agg #[(.pointer none)]) 1 8 := by unfold TI; kernel_rfl
theorem ag19 : isAggT Tryd.prog 19 = true := by kernel_rfl
theorem bz19 : BZ Tryd.prog 19 [(.pointer none)] [(0, 1)] := by unfold BZ; kernel_rfl
theorem ti20 : TI Tryd.prog 20 .nilIface 1 16 := by unfold TI; kernel_rfl
theorem sc20 : isScalar Tryd.prog 20 = true := by kernel_rfl
theorem ti21 : TI Tryd.prog 21 (.int .i32 0) 1 4 := by unfold TI; kernel_rfl
theorem sc21 : isScalar Tryd.prog 21 = true := by kernel_rfl
theorem ti22 : TI Tryd.prog 22 (.slice none 0 0) 1 24 := by unfold TI; kernel_rfl
theorem sc22 : isScalar Tryd.prog 22 = true := by kernel_rfl
theorem ti23 : TI Tryd.prog 23 (.slice none 0 0) 1 24 := by unfold TI; kernel_rfl
theorem sc23 : isScalar Tryd.prog 23 = true := by kernel_rfl
theorem ti24 : TI Tryd.prog 24 .nilFunc 1 8 := by unfold TI; kernel_rfl
theorem sc24 : isScalar Tryd.prog 24 = true := by kernel_rfl
theorem ti25 : TI Tryd.prog 25 .nilFunc 1 8 := by unfold TI; kernel_rfl
theorem sc25 : isScalar Tryd.prog 25 = true := by kernel_rfl
theorem ti26 : TI Tryd.prog 26 .nilFunc 1 8 := by unfold TI; kernel_rfl
theorem sc26 : isScalar Tryd.prog 26 = true := by kernel_rfl
theorem ti27 : TI Tryd.prog 27 .nilFunc 1 8 := by unfold TI; kernel_rfl
theorem sc27 : isScalar Tryd.prog 27 = true := by kernel_rfl
theorem ti28 : TI Tryd.prog 28 .nilFunc 1 8 := by unfold TI; kernel_rfl
theorem sc28 : isScalar Tryd.prog 28 = true := by kernel_rfl
theorem ti29 : TI Tryd.prog 29 (.agg #[(.string .empty), (.string .empty)]) 2 32 := by unfold TI; kernel_rfl
theorem ag29 : isAggT Tryd.prog 29 = true := by kernel_rfl
theorem bz29 : BZ Tryd.prog 29 [(.string .empty), (.string .empty)] [(0, 1), (1, 1)] := by unfold BZ; kernel_rfl
theorem ti30 : TI Tryd.prog 30 (.agg #[(.string .empty), (.string .empty)]) 2 32 := by unfold TI; kernel_rfl
theorem ag30 : isAggT Tryd.prog 30 = true := by kernel_rfl
theorem bz30 : BZ Tryd.prog 30 [(.string .empty), (.string .empty)] [(0, 1), (1, 1)] := by unfold BZ; kernel_rfl
theorem ti31 : TI Tryd.prog 31 (.slice none 0 0) 1 24 := by unfold TI; kernel_rfl
theorem sc31 : isScalar Tryd.prog 31 = true := by kernel_rfl
theorem ti32 : TI Tryd.prog 32 (.agg #[(.int .i64 0), (.slice none 0 0), (.bool false), (.bool false), (.bool false)]) 5 40 := by unfold TI; kernel_rfl
theorem ag32 : isAggT Tryd.prog 32 = true := by kernel_rfl
theorem bz32 : BZ Tryd.prog 32 [(.int .i64 0), (.slice none 0 0), (.bool false), (.bool false), (.bool false)] [(0, 1), (1, 1), (2, 1), (3, 1), (4, 1)] := by unfold BZ; kernel_rfl
theorem ti33 : TI Tryd.prog 33 (.slice none 0 0) 1 24 := by unfold TI; kernel_rfl
theorem sc33 : isScalar Tryd.prog 33 = true := by kernel_rfl
theorem ti34 : TI Tryd.prog 34 (.agg #[(.int .i64 0), (.slice none 0 0), (.string .empty), (.bool false)]) 4 56 := by unfold TI; kernel_rfl
theorem ag34 : isAggT Tryd.prog 34 = true := by kernel_rfl
theorem bz34 : BZ Tryd.prog 34 [(.int .i64 0), (.slice none 0 0), (.string .empty), (.bool false)] [(0, 1), (1, 1), (2, 1), (3, 1)] := by unfold BZ; kernel_rfl
theorem ti35 : TI Tryd.prog 35 (.agg #[(.int .i64 0), (.slice none 0 0), (.string .empty), (.bool false)]) 4 56 := by unfold TI; kernel_rfl
theorem ag35 : isAggT Tryd.prog 35 = true := by kernel_rfl
theorem bz35 : BZ Tryd.prog 35 [(.int .i64 0), (.slice none 0 0), (.string .empty), (.bool false)] [(0, 1), (1, 1), (2, 1), (3, 1)] := by unfold BZ; kernel_rfl
theorem ti36 : TI Tryd.prog 36 .nilFunc 1 8 := by unfold TI; kernel_rfl
theorem sc36 : isScalar Tryd.prog 36 = true := by kernel_rfl
theorem ti37 : TI Tryd.prog 37 .nilFunc 1 8 := by unfold TI; kernel_rfl
theorem sc37 : isScalar Tryd.prog 37 = true := by kernel_rfl
theorem ti38 : TI Tryd.prog 38 .nilFunc 1 8 := by unfold TI; kernel_rfl
theorem sc38 : isScalar Tryd.prog 38 = true := by kernel_rfl
theorem ti39 : TI Tryd.prog 39 .nilFunc 1 8 := by unfold TI; kernel_rfl
theorem sc39 : isScalar Tryd.prog 39 = true := by kernel_rfl
theorem ti40 : TI Tryd.prog 40 (.agg #[(.int .i64 0), (.slice none 0 0), (.string .empty), (.bool false)]) 4 56 := by unfold TI; kernel_rfl
theorem ag40 : isAggT Tryd.prog 40 = true := by kernel_rfl
theorem bz40 : BZ Tryd.prog 40 [(.int .i64 0), (.slice none 0 0), (.string .empty), (.bool false)] [(0, 1), (1, 1), (2, 1), (3, 1)] := by unfold BZ; kernel_rfl
theorem ti41 : TI Tryd.prog 41 .nilFunc 1 8 := by unfold TI; kernel_rfl
theorem sc41 : isScalar Tryd.prog 41 = true := by kernel_rfl
theorem ti42 : TI Tryd.prog 42 .nilFunc 1 8 := by unfold TI; kernel_rfl
theorem sc42 : isScalar Tryd.prog 42 = true := by kernel_rfl
theorem ti43 : TI Tryd.prog 43 .nilFunc 1 8 := by unfold TI; kernel_rfl
theorem sc43 : isScalar Tryd.prog 43 = true := by kernel_rfl
theorem ti44 : TI Tryd.prog 44 .nilFunc 1 8 := by unfold TI; kernel_rfl
theorem sc44 : isScalar Tryd.prog 44 = true := by kernel_rfl
theorem ti45 : TI Tryd.prog 45 .nilFunc 1 8 := by unfold TI; kernel_rfl
theorem sc45 : isScalar Tryd.prog 45 = true := by kernel_rfl
theorem ti46 : TI Tryd.prog 46 .nilFunc 1 8 := by unfold TI; kernel_rfl
theorem sc46 : isScalar Tryd.prog 46 = true := by kernel_rfl
theorem ti47 : TI Tryd.prog 47 .nilFunc 1 8 := by unfold TI; kernel_rfl
theorem sc47 : isScalar Tryd.prog 47 = true := by kernel_rfl
theorem ti48 : TI Tryd.prog 48 (.slice none 0 0) 1 24 := by unfold TI; kernel_rfl
theorem sc48 : isScalar Tryd.prog 48 = true := by kernel_rfl
theorem ti49 : TI Tryd.prog 49 .nilFunc 1 8 := by unfold TI; kernel_rfl
theorem sc49 : isScalar Tryd.prog 49 = true := by kernel_rfl
theorem ti50 : TI Tryd.prog 50 .nilFunc 1 8 := by unfold TI; kernel_rfl
theorem sc50 : isScalar Tryd.prog 50 = true := by kernel_rfl
theorem ti51 : TI Tryd.prog 51 .nilFunc 1 8 := by unfold TI; kernel_rfl
theorem sc51 : isScalar Tryd.prog 51 = true := by kernel_rfl
theorem ti52 : TI Tryd.prog 52 .nilFunc 1 8 := by unfold TI; kernel_rfl
theorem sc52 : isScalar Tryd.prog 52 = true := by kernel_rfl
theorem ti54 : TI Tryd.prog 54 .nilFunc 1 8 := by unfold TI; kernel_rfl
theorem sc54 : isScalar Tryd.prog 54 = true := by kernel_rfl
theorem ti55 : TI Tryd.prog 55 .nilFunc 1 8 := by unfold TI; kernel_rfl
theorem sc55 : isScalar Tryd.prog 55 = true := by kernel_rfl
theorem ti56 : TI Tryd.prog 56 .nilFunc 1 8 := by unfold TI; kernel_rfl
theorem sc56 : isScalar Tryd.prog 56 = true := by kernel_rfl
theorem ti57 : TI Tryd.prog 57 .nilFunc 1 8 := by unfold TI; kernel_rfl
theorem sc57 : isScalar Tryd.prog 57 = true := by kernel_rfl
theorem ti58 : TI Tryd.prog 58 .nilFunc 1 8 := by unfold TI; kernel_rfl
theorem sc58 : isScalar Tryd.prog 58 = true := by kernel_rfl
theorem ti59 : TI Tryd.prog 59 .nilFunc 1 8 := by unfold TI; kernel_rfl
theorem sc59 : isScalar Tryd.prog 59 = true := by kernel_rfl
theorem ti60 : TI Tryd.prog 60 (.slice none 0 0) 1 24 := by unfold TI; kernel_rfl
theorem sc60 : isScalar Tryd.prog 60 = true := by kernel_rfl
theorem ti61 : TI Tryd.prog 61 .nilFunc 1 8 := by unfold TI; kernel_rfl
theorem sc61 : isScalar Tryd.prog 61 = true := by kernel_rfl
theorem ti62 : TI Tryd.prog 62 .nilFunc 1 8 := by unfold TI; kernel_rfl
theorem sc62 : isScalar Tryd.prog 62 = true := by kernel_rfl
theorem ti63 : TI Tryd.prog 63 .nilFunc 1 8 := by unfold TI; kernel_rfl
theorem sc63 : isScalar Tryd.prog 63 = true := by kernel_rfl
theorem ti64 : TI Tryd.prog 64 .nilFunc 1 8 := by unfold TI; kernel_rfl
theorem sc64 : isScalar Tryd.prog 64 = true := by kernel_rfl
theorem ti65 : TI Tryd.prog 65 .nilFunc 1 8 := by unfold TI; kernel_rfl
theorem sc65 : isScalar Tryd.prog 65 = true := by kernel_rfl
theorem ti66 : TI Tryd.prog 66 .nilFunc 1 8 := by unfold TI; kernel_rfl
theorem sc66 : isScalar Tryd.prog 66 = true := by kernel_rfl
theorem ti67 : TI Tryd.prog 67 .nilFunc 1 8 := by unfold TI; kernel_rfl
theorem sc67 : isScalar Tryd.prog 67 = true := by kernel_rfl
theorem ti68 : TI Tryd.prog 68 .nilFunc 1 8 := by unfold TI; kernel_rfl
theorem sc68 : isScalar Tryd.prog 68 = true := by kernel_rfl
theorem ti69 : TI Tryd.prog 69 .nilFunc 1 8 := by unfold TI; kernel_rfl
theorem sc69 : isScalar Tryd.prog 69 = true := by kernel_rfl
theorem ti70 : TI Tryd.prog 70 .nilFunc 1 8 := by unfold TI; kernel_rfl
theorem sc70 : isScalar Tryd.prog 70 = true := by kernel_rfl
theorem ti72 : TI Tryd.prog 72 .nilFunc 1 8 := by unfold TI; kernel_rfl
theorem sc72 : isScalar Tryd.prog 72 = true := by kernel_rfl
theorem ti73 : TI Tryd.prog 73 .nilFunc 1 8 := by unfold TI; kernel_rfl
theorem sc73 : isScalar Tryd.prog 73 = true := by kernel_rfl
theorem ti74 : TI Tryd.prog 74 .nilFunc 1 8 := by unfold TI; kernel_rfl
theorem sc74 : isScalar Tryd.prog 74 = true := by kernel_rfl
theorem ti75 : TI Tryd.prog 75 .nilFunc 1 8 := by unfold TI; kernel_rfl
theorem sc75 : isScalar Tryd.prog 75 = true := by kernel_rfl
theorem ti77 : TI Tryd.prog 77 .nilFunc 1 8 := by unfold TI; kernel_rfl
theorem sc77 : isScalar Tryd.prog 77 = true := by kernel_rfl
theorem ti78 : TI Tryd.prog 78 .nilFunc 1 8 := by unfold TI; kernel_rfl
theorem sc78 : isScalar Tryd.prog 78 = true := by kernel_rfl
theorem ti79 : TI Tryd.prog 79 .nilFunc 1 8 := by unfold TI; kernel_rfl
theorem sc79 : isScalar Tryd.prog 79 = true := by kernel_rfl
theorem ti80 : TI Tryd.prog 80 (.int .u64 0) 1 8 := by unfold TI; kernel_rfl
theorem sc80 : isScalar Tryd.prog 80 = true := by kernel_rfl
theorem ti81 : TI Tryd.prog 81 .nilFunc 1 8 := by unfold TI; kernel_rfl
theorem sc81 : isScalar Tryd.prog 81 = true := by kernel_rfl
theorem ti83 : TI Tryd.prog 83 .nilFunc 1 8 := by unfold TI; kernel_rfl
theorem sc83 : isScalar Tryd.prog 83 = true := by kernel_rfl
theorem ti84 : TI Tryd.prog 84 .nilFunc 1 8 := by unfold TI; kernel_rfl
theorem sc84 : isScalar Tryd.prog 84 = true := by kernel_rfl
theorem ti85 : TI Tryd.prog 85 .nilFunc 1 8 := by unfold TI; kernel_rfl
theorem sc85 : isScalar Tryd.prog 85 = true := by kernel_rfl
theorem ti86 : TI Tryd.prog 86 (.int .i64 0) 1 8 := by unfold TI; kernel_rfl
theorem sc86 : isScalar Tryd.prog 86 = true := by kernel_rfl
theorem ti88 : TI Tryd.prog 88 .nilFunc 1 8 := by unfold TI; kernel_rfl
theorem sc88 : isScalar Tryd.prog 88 = true := by kernel_rfl
theorem ti89 : TI Tryd.prog 89 .nilFunc 1 8 := by unfold TI; kernel_rfl
theorem sc89 : isScalar Tryd.prog 89 = true := by kernel_rfl
theorem ti90 : TI Tryd.prog 90 .nilFunc 1 8 := by unfold TI; kernel_rfl
theorem sc90 : isScalar Tryd.prog 90 = true := by kernel_rfl
theorem ti91 : TI Tryd.prog 91 .nilFunc 1 8 := by unfold TI; kernel_rfl
theorem sc91 : isScalar Tryd.prog 91 = true := by kernel_rfl
theorem ti93 : TI Tryd.prog 93 .nilFunc 1 8 := by unfold TI; kernel_rfl
theorem sc93 : isScalar Tryd.prog 93 = true := by kernel_rfl
theorem ti94 : TI Tryd.prog 94 .nilFunc 1 8 := by unfold TI; kernel_rfl
theorem sc94 : isScalar Tryd.prog 94 = true := by kernel_rfl
theorem ti95 : TI Tryd.prog 95 (.int .u32 0) 1 4 := by unfold TI; kernel_rfl
theorem sc95 : isScalar Tryd.prog 95 = true := by kernel_rfl
theorem ti96 : TI Tryd.prog 96 .nilFunc 1 8 := by unfold TI; kernel_rfl
theorem sc96 : isScalar Tryd.prog 96 = true := by kernel_rfl
theorem ti97 : TI Tryd.prog 97 (.int .u64 0) 1 8 := by unfold TI; kernel_rfl
theorem sc97 : isScalar Tryd.prog 97 = true := by kernel_rfl
theorem ti98 : TI Tryd.prog 98 .nilFunc 1 8 := by unfold TI; kernel_rfl
theorem sc98 : isScalar Tryd.prog 98 = true := by kernel_rfl
theorem ti99 : TI Tryd.prog 99 (.int .u64 0) 1 8 := by unfold TI; kernel_rfl
theorem sc99 : isScalar Tryd.prog 99 = true := by kernel_rfl
theorem ti100 : TI Tryd.prog 100 .nilFunc 1 8 := by unfold TI; kernel_rfl
theorem sc100 : isScalar Tryd.prog 100 = true := by kernel_rfl
theorem ti101 : TI Tryd.prog 101 .nilFunc 1 8 := by unfold TI; kernel_rfl
theorem sc101 : isScalar Tryd.prog 101 = true := by kernel_rfl
theorem ti102 : TI Tryd.prog 102 .nilFunc 1 8 := by unfold TI; kernel_rfl
theorem sc102 : isScalar Tryd.prog 102 = true := by kernel_rfl
theorem ti103 : TI Tryd.prog 103 (.pointer none) 1 8 := by unfold TI; kernel_rfl
theorem sc103 : isScalar Tryd.prog 103 = true := by kernel_rfl
theorem ti104 : TI Tryd.prog 104 .nilFunc 1 8 := by unfold TI; kernel_rfl
theorem sc104 : isScalar Tryd.prog 104 = true := by kernel_rfl
theorem ti105 : TI Tryd.prog 105 (.agg #[(.int .u8 0), (.int .u8 0), (.int .u8 0), (.int .u8 0), (.int .u8 0), (.int .u8 0), (.int .u8 0), (.int .u8 0), (.int .u8 0), (.int .u8 0), (.int .u8 0), (.int .u8 0), (.int .u8 0), (.int .u8 0), (.int .u8 0), (.int .u8 0), (.int .u8 0), (.int .u8 0), (.int .u8 0), (.int .u8 0), (.int .u8 0), (.int .u8 0), (.int .u8 0), (.int .u8 0), (.int .u8 0), (.int .u8 0), (.int .u8 0), (.int .u8 0), (.int .u8 0), (.int .u8 0), (.int .u8 0), (.int .u8 0), (.int .u8 0), (.int .u8 0), (.int .u8 0), (.int .u8 0), (.int .u8 0), (.int .u8 0), (.int .u8 0), (.int .u8 0), (.int .u8 0), (.int .u8 0), (.int .u8 0), (.int .u8 0), (.int .u8 0), (.int .u8 0), (.int .u8 0), (.int .u8 0), (.int .u8 0), (.int .u8 0), (.int .u8 0), (.int .u8 0), (.int .u8 0), (.int .u8 0), (.int .u8 0), (.int .u8 0), (.int .u8 0), (.int .u8 0), (.int .u8 0), (.int .u8 0), (.int .u8 0), (.int .u8 0), (.int .u8 0), (.int .u8 0), (.int .u8 0), (.int .u8 0), (.int .u8 0), (.int .u8 0), (.int .u8 0), (.int .u8 0), (.int .u8 0), (.int .u8 0), (.int .u8 0), (.int .u8 0), (.int .u8 0), (.int .u8 0), (.int .u8 0), (.int .u8 0), (.int .u8 0), (.int .u8 0), (.int .u8 0), (.int .u8 0), (.int .u8 0), (.int .u8 0), (.int .u8 0), (.int .u8 0), (.int .u8 0), (.int .u8 0), (.int .u8 0), (.int .u8 0), (.int .u8 0), (.int .u8 0), (.int .u8 0), (.int .u8 0), (.int .u8 0), (.int .u8 0), (.int .u8 0), (.int .u8 0), (.int .u8 0), (.int .u8 0), (.int .u8 0), (.int .u8 0), (.int .u8 0), (.int .u8 0), (.int .u8 0), (.int .u8 0), (.int .u8 0), (.int .u8 0), (.int .u8 0), (.int .u8 0), (.int .u8 0), (.int .u8 0), (.int .u8 0), (.int .u8 0), (.int .u8 0), (.int .u8 0), (.int .u8 0), (.int .u8 0), (.int .u8 0), (.int .u8 0), (.int .u8 0), (.int .u8 0), (.int .u8 0), (.int .u8 0), (.int .u8 0), (.int .u8 0), (.int .u8 0), (.int .u8 0), (.int .u8 0), (.int .u8 0), (.int .u8 0), (.int .u8 0), (.int .u8 0), (.int .u8 0), (.int .u8 0), (.int .u8 0), (.int .u8 0), (.int .u8 0), (.int .u8 0), (.int .u8 0), (.int .u8 0), (.int .u8 0), (.int .u8 0), (.int .u8 0), (.int .u8 0), (.int .u8 0), (.int .u8 0), (.int .u8 0), (.int .u8 0), (.int .u8 0), (.int .u8 0), (.int .u8 0), (.int .u8 0), (.int .u8 0), (.int .u8 0), (.int .u8 0), (.int .u8 0), (.int .u8 0), (.int .u8 0), (.int .u8 0), (.int .u8 0), (.int .u8 0), (.int .u8 0), (.int .u8 0), (.int .u8 0), (.int .u8 0), (.int .u8 0), (.int .u8 0), (.int .u8 0), (.int .u8 0), (.int .u8 0), (.int .u8 0), (.int .u8 0), (.int .u8 0), (.int .u8 0), (.int .u8 0), (.int .u8 0), (.int .u8 0), (.int .u8 0), (.int .u8 0), (.int .u8 0), (.int .u8 0), (.int .u8 0), (.int .u8 0), (.int .u8 0), (.int .u8 0), (.int .u8 0), (.int .u8 0), (.int .u8 0), (.int .u8 0), (.int .u8 0), (.int .u8 0), (.int .u8 0), (.int .u8 0), (.int .u8 0), (.int .u8 0), (.int .u8 0), (.int .u8 0), (.int .u8 0), (.int .u8 0), (.int .u8 0), (.int .u8 0), (.int .u8 0), (.int .u8 0), (.int .u8 0), (.int .u8 0), (.int .u8 0), (.int .u8 0), (.int .u8 0), (.int .u8 0), (.int .u8 0), (.int .u8 0), (.int .u8 0), (.int .u8 0), (.int .u8 0), (.int .u8 0), (.int .u8 0), (.int .u8 0), (.int .u8 0), (.int .u8 0), (.int .u8 0), (.int .u8 0), (.int .u8 0), (.int .u8 0), (.int .u8 0), (.int .u8 0), (.int .u8 0), (.int .u8 0), (.int .u8 0), (.int .u8 0), (.int .u8 0), (.int .u8 0), (.int .u8 0), (.int .u8 0), (.int .u8 0), (.int .u8 0), (.int .u8 0), (.int .u8 0), (.int .u8 0), (.int .u8 0), (.int .u8 0), (.int .u8 0), (.int .u8 0), (.int .u8 0), (.int .u8 0), (.int .u8 0), (.int .u8 0), (.int .u8 0), (.int .u8 0), (.int .u8 0), (.int .u8 0), (.int .u8 0), (.int .u8 0), (.int .u8 0), (.int .u8 0), (.int .u8 0)]) 256 256 := by unfold TI; kernel_rfl
theorem ag105 : isAggT Tryd.prog 105 = true := by kernel_rfl
theorem ti106 : TI Tryd.prog 106 (.agg #[(.int .u8 0), (.int .u8 0)]) 2 2 := by unfold TI; kernel_rfl
theorem ag106 : isAggT Tryd.prog 106 = true := by kernel_rfl
theorem bz106 : BZ Tryd.prog 106 [(.int .u8 0), (.int .u8 0)] [(0, 1), (1, 1)] := by unfold BZ; kernel_rfl
theorem ti107 : TI Tryd.prog 107 (.agg #[(.int .u8 0), (.int .u8 0)]) 2 2 := by unfold TI; kernel_rfl
theorem ag107 : isAggT Tryd.prog 107 = true := by kernel_rfl
theorem bz107 : BZ Tryd.prog 107 [(.int .u8 0), (.int .u8 0)] [(0, 1), (1, 1)] := by unfold BZ; kernel_rfl
theorem ti108 : TI Tryd.prog 108 (.agg #[(.int .u8 0), (.int .u8 0), (.int .u8 0), (.int .u8 0), (.int .u8 0), (.int .u8 0), (.int .u8 0), (.int .u8 0), (.int .u8 0), (.int .u8 0), (.int .u8 0), (.int .u8 0), (.int .u8 0), (.int .u8 0), (.int .u8 0), (.int .u8 0), (.int .u8 0), (.int .u8 0), (.int .u8 0), (.int .u8 0), (.int .u8 0), (.int .u8 0), (.int .u8 0), (.int .u8 0), (.int .u8 0), (.int .u8 0), (.int .u8 0), (.int .u8 0), (.int .u8 0), (.int .u8 0), (.int .u8 0), (.int .u8 0)]) 32 32 := by unfold TI; kernel_rfl
theorem ag108 : isAggT Tryd.prog 108 = true := by kernel_rfl
theorem ti110 : TI Tryd.prog 110 .nilFunc 1 8 := by unfold TI; kernel_rfl
theorem sc110 : isScalar Tryd.prog 110 = true := by kernel_rfl
theorem ti111 : TI Tryd.prog 111 (.pointer none) 1 8 := by unfold TI; kernel_rfl
theorem sc111 : isScalar Tryd.prog 111 = true := by kernel_rfl
theorem ti113 : TI Tryd.prog 113 .nilFunc 1 8 := by unfold TI; kernel_rfl
theorem sc113 : isScalar Tryd.prog 113 = true := by kernel_rfl
theorem ti114 : TI Tryd.prog 114 .nilFunc 1 8 := by unfold TI; kernel_rfl
theorem sc114 : isScalar Tryd.prog 114 = true := by kernel_rfl
theorem ti115 : TI Tryd.prog 115 (.agg #[(.pointer none), (.pointer none), (.pointer none), (.string .empty)]) 4 40 := by unfold TI; kernel_rfl
theorem ag115 : isAggT Tryd.prog 115 = true := by kernel_rfl
theorem bz115 : BZ Tryd.prog 115 [(.pointer none), (.pointer none), (.pointer none), (.string .empty)] [(0, 1), (1, 1), (2, 1), (3, 1)] := by unfold BZ; kernel_rfl
theorem ti116 : TI Tryd.prog 116 (.agg #[(.pointer none), (.pointer none), (.pointer none), (.string .empty)]) 4 40 := by unfold TI; kernel_rfl
theorem ag116 : isAggT Tryd.prog 116 = true := by kernel_rfl
theorem bz116 : BZ Tryd.prog 116 [(.pointer none), (.pointer none), (.pointer none), (.string .empty)] [(0, 1), (1, 1), (2, 1), (3, 1)] := by unfold BZ; kernel_rfl
theorem ti117 : TI Tryd.prog 117 (.agg #[]) 0 0 := by unfold TI; kernel_rfl
theorem ag117 : isAggT Tryd.prog 117 = true := by kernel_rfl
theorem ti118 : TI Tryd.prog 118 (.agg #[]) 0 0 := by unfold TI; kernel_rfl
theorem ag118 : isAggT Tryd.prog 118 = true := by kernel_rfl
theorem bz118 : BZ Tryd.prog 118 [] [(0, 0)] := by unfold BZ; kernel_rfl
theorem ti119 : TI Tryd.prog 119 (.agg #[]) 0 0 := by unfold TI; kernel_rfl
theorem ag119 : isAggT Tryd.prog 119 = true := by kernel_rfl
theorem bz119 : BZ Tryd.prog 119 [] [(0, 0)] := by unfold BZ; kernel_rfl
theorem ti120 : TI Tryd.prog 120 .nilFunc 1 8 := by unfold TI; kernel_rfl
theorem sc120 : isScalar Tryd.prog 120 = true := by kernel_rfl
theorem ti121 : TI Tryd.prog 121 (.int .u8 0) 1 1 := by unfold TI; kernel_rfl
theorem sc121 : isScalar Tryd.prog 121 = true := by kernel_rfl
theorem ti122 : TI Tryd.prog 122 (.int .u8 0) 1 1 := by unfold TI; kernel_rfl
theorem sc122 : isScalar Tryd.prog 122 = true := by kernel_rfl
theorem ti123 : TI Tryd.prog 123 .nilFunc 1 8 := by unfold TI; kernel_rfl
theorem sc123 : isScalar Tryd.prog 123 = true := by kernel_rfl
theorem ti124 : TI Tryd.prog 124 (.pointer none) 1 8 := by unfold TI; kernel_rfl
theorem sc124 : isScalar Tryd.prog 124 = true := by kernel_rfl
theorem ti125 : TI Tryd.prog 125 (.int .i32 0) 1 4 := by unfold TI; kernel_rfl
theorem sc125 : isScalar Tryd.prog 125 = true := by kernel_rfl
theorem ti126 : TI Tryd.prog 126 (.int .i32 0) 1 4 := by unfold TI; kernel_rfl
theorem sc126 : isScalar Tryd.prog 126 = true := by kernel_rfl
theorem ti127 : TI Tryd.prog 127 (.agg #[(.int .u64 0), (.int .u64 0), (.int .u32 0), (.int .u8 0), (.int .u8 0), (.int .u8 0), (.int .u8 0), .nilFunc, (.pointer none), (.int .i32 0), (.int .i32 0)]) 11 48 := by unfold TI; kernel_rfl
theorem ag127 : isAggT Tryd.prog 127 = true := by kernel_rfl
theorem bz127 : BZ Tryd.prog 127 [(.int .u64 0), (.int .u64 0), (.int .u32 0), (.int .u8 0), (.int .u8 0), (.int .u8 0), (.int .u8 0), .nilFunc, (.pointer none), (.int .i32 0), (.int .i32 0)] [(0, 1), (1, 1), (2, 1), (3, 1), (4, 1), (5, 1), (6, 1), (7, 1), (8, 1), (9, 1), (10, 1)] := by unfold BZ; kernel_rfl
theorem ti128 : TI Tryd.prog 128 (.agg #[(.int .u64 0), (.int .u64 0), (.int .u32 0), (.int .u8 0), (.int .u8 0), (.int .u8 0), (.int .u8 0), .nilFunc, (.pointer none), (.int .i32 0), (.int .i32 0)]) 11 48 := by unfold TI; kernel_rfl
theorem ag128 : isAggT Tryd.prog 128 = true := by kernel_rfl
theorem bz128 : BZ Tryd.prog 128 [(.int .u64 0), (.int .u64 0), (.int .u32 0), (.int .u8 0), (.int .u8 0), (.int .u8 0), (.int .u8 0), .nilFunc, (.pointer none), (.int .i32 0), (.int .i32 0)] [(0, 1), (1, 1), (2, 1), (3, 1), (4, 1), (5, 1), (6, 1), (7, 1), (8, 1), (9, 1), (10, 1)] := by unfold BZ; kernel_rfl
theorem ti129 : TI Tryd.prog 129 (.pointer none) 1 8 := by unfold TI; kernel_rfl
theorem sc129 : isScalar Tryd.prog 129 = true := by kernel_rfl
theorem con1 : Tryd.prog.concrete 1 = true := by kernel_rfl
theorem con2 : Tryd.prog.concrete 2 = true := by kernel_rfl
theorem con3 : Tryd.prog.concrete 3 = true := by kernel_rfl
theorem con4 : Tryd.prog.concrete 4 = true := by kernel_rfl
theorem con5 : Tryd.prog.concrete 5 = true := by kernel_rfl
theorem con6 : Tryd.prog.concrete 6 = true := by kernel_rfl
theorem con7 : Tryd.prog.concrete 7 = true := by kernel_rfl
theorem con8 : Tryd.prog.concrete 8 = true := by kernel_rfl
theorem con9 : Tryd.prog.concrete 9 = true := by kernel_rfl
theorem con10 : Tryd.prog.concrete 10 = true := by kernel_rfl
theorem con11 : Tryd.prog.concrete 11 = true := by kernel_rfl
theorem con12 : Tryd.prog.concrete 12 = true := by kernel_rfl
theorem con13 : Tryd.prog.concrete 13 = true := by kernel_rfl
theorem con14 : Tryd.prog.concrete 14 = true := by kernel_rfl
theorem con15 : Tryd.prog.concrete 15 = true := by kernel_rfl
theorem con16 : Tryd.prog.concrete 16 = true := by kernel_rfl
theorem con17 : Tryd.prog.concrete 17 = true := by kernel_rfl
theorem con18 : Tryd.prog.concrete 18 = true := by kernel_rfl
theorem con19 : Tryd.prog.concrete 19 = true := by kernel_rfl
theorem con21 : Tryd.prog.concrete 21 = true := by kernel_rfl
theorem con22 : Tryd.prog.concrete 22 = true := by kernel_rfl
theorem con23 : Tryd.prog.concrete 23 = true := by kernel_rfl
theorem con24 : Tryd.prog.concrete 24 = true := by kernel_rfl
theorem con25 : Tryd.prog.concrete 25 = true := by kernel_rfl
theorem con26 : Tryd.prog.concrete 26 = true := by kernel_rfl
theorem con27 : Tryd.prog.concrete 27 = true := by kernel_rfl
theorem con28 : Tryd.prog.concrete 28 = true := by kernel_rfl
theorem con29 : Tryd.prog.concrete 29 = true := by kernel_rfl
theorem con30 : Tryd.prog.concrete 30 = true := by kernel_rfl
theorem con31 : Tryd.prog.concrete 31 = true := by kernel_rfl
theorem con32 : Tryd.prog.concrete 32 = true := by kernel_rfl
theorem con33 : Tryd.prog.concrete 33 = true := by kernel_rfl
theorem con34 : Tryd.prog.concrete 34 = true := by kernel_rfl
theorem con35 : Tryd.prog.concrete 35 = true := by kernel_rfl
theorem con36 : Tryd.prog.concrete 36 = true := by kernel_rfl
theorem con37 : Tryd.prog.concrete 37 = true := by kernel_rfl
theorem con38 : Tryd.prog.concrete 38 = true := by kernel_rfl
theorem con39 : Tryd.prog.concrete 39 = true := by kernel_rfl
theorem con40 : Tryd.prog.concrete 40 = true := by kernel_rfl
theorem con41 : Tryd.prog.concrete 41 = true := by kernel_rfl
theorem con42 : Tryd.prog.concrete 42 = true := by kernel_rfl
theorem con43 : Tryd.prog.concrete 43 = true := by kernel_rfl
theorem con44 : Tryd.prog.concrete 44 = true := by kernel_rfl
theorem con45 : Tryd.prog.concrete 45 = true := by kernel_rfl
theorem con46 : Tryd.prog.concrete 46 = true := by kernel_rfl
theorem con47 : Tryd.prog.concrete 47 = true := by kernel_rfl
theorem con48 : Tryd.prog.concrete 48 = true := by kernel_rfl
theorem con49 : Tryd.prog.concrete 49 = true := by kernel_rfl
theorem con50 : Tryd.prog.concrete 50 = true := by kernel_rfl
theorem con51 : Tryd.prog.concrete 51 = true := by kernel_rfl
theorem con52 : Tryd.prog.concrete 52 = true := by kernel_rfl
theorem con54 : Tryd.prog.concrete 54 = true := by kernel_rfl
theorem con55 : Tryd.prog.concrete 55 = true := by kernel_rfl
theorem con56 : Tryd.prog.concrete 56 = true := by kernel_rfl
theorem con57 : Tryd.prog.concrete 57 = true := by kernel_rfl
theorem con58 : Tryd.prog.concrete 58 = true := by kernel_rfl
theorem con59 : Tryd.prog.concrete 59 = true := by kernel_rfl
theorem con60 : Tryd.prog.concrete 60 = true := by kernel_rfl
theorem con61 : Tryd.prog.concrete 61 = true := by kernel_rfl
theorem con62 : Tryd.prog.concrete 62 = true := by kernel_rfl
theorem con63 : Tryd.prog.concrete 63 = true := by kernel_rfl
theorem con64 : Tryd.prog.concrete 64 = true := by kernel_rfl
theorem con65 : Tryd.prog.concrete 65 = true := by kernel_rfl
theorem con66 : Tryd.prog.concrete 66 = true := by kernel_rfl
theorem con67 : Tryd.prog.concrete 67 = true := by kernel_rfl
theorem con68 : Tryd.prog.concrete 68 = true := by kernel_rfl
theorem con69 : Tryd.prog.concrete 69 = true := by kernel_rfl
theorem con70 : Tryd.prog.concrete 70 = true := by kernel_rfl
theorem con72 : Tryd.prog.concrete 72 = true := by kernel_rfl
theorem con73 : Tryd.prog.concrete 73 = true := by kernel_rfl
theorem con74 : Tryd.prog.concrete 74 = true := by kernel_rfl
theorem con75 : Tryd.prog.concrete 75 = true := by kernel_rfl
theorem con77 : Tryd.prog.concrete 77 = true := by kernel_rfl
theorem con78 : Tryd.prog.concrete 78 = true := by kernel_rfl
theorem con79 : Tryd.prog.concrete 79 = true := by kernel_rfl
theorem con80 : Tryd.prog.concrete 80 = true := by kernel_rfl
theorem con81 : Tryd.prog.concrete 81 = true := by kernel_rfl
theorem con83 : Tryd.prog.concrete 83 = true := by kernel_rfl
theorem con84 : Tryd.prog.concrete 84 = true := by kernel_rfl
theorem con85 : Tryd.prog.concrete 85 = true := by kernel_rfl
theorem con86 : Tryd.prog.concrete 86 = true := by kernel_rfl
theorem con88 : Tryd.prog.concrete 88 = true := by kernel_rfl
theorem con89 : Tryd.prog.concrete 89 = true := by kernel_rfl
theorem con90 : Tryd.prog.concrete 90 = true := by kernel_rfl
theorem con91 : Tryd.prog.concrete 91 = true := by kernel_rfl
theorem con93 : Tryd.prog.concrete 93 = true := by kernel_rfl
theorem con94 : Tryd.prog.concrete 94 = true := by kernel_rfl
theorem con95 : Tryd.prog.concrete 95 = true := by kernel_rfl
theorem con96 : Tryd.prog.concrete 96 = true := by kernel_rfl
theorem con97 : Tryd.prog.concrete 97 = true := by kernel_rfl
theorem con98 : Tryd.prog.concrete 98 = true := by kernel_rfl
theorem con99 : Tryd.prog.concrete 99 = true := by kernel_rfl
theorem con100 : Tryd.prog.concrete 100 = true := by kernel_rfl
theorem con101 : Tryd.prog.concrete 101 = true := by kernel_rfl
theorem con102 : Tryd.prog.concrete 102 = true := by kernel_rfl
theorem con103 : Tryd.prog.concrete 103 = true := by kernel_rfl
theorem con104 : Tryd.prog.concrete 104 = true := by kernel_rfl
theorem con105 : Tryd.prog.concrete 105 = true := by kernel_rfl
theorem con106 : Tryd.prog.concrete 106 = true := by kernel_rfl
theorem con107 : Tryd.prog.concrete 107 = true := by kernel_rfl
theorem con108 : Tryd.prog.concrete 108 = true := by kernel_rfl
theorem con110 : Tryd.prog.concrete 110 = true := by kernel_rfl
theorem con111 : Tryd.prog.concrete 111 = true := by kernel_rfl
theorem con113 : Tryd.prog.concrete 113 = true := by kernel_rfl
theorem con114 : Tryd.prog.concrete 114 = true := by kernel_rfl
theorem con115 : Tryd.prog.concrete 115 = true := by kernel_rfl
theorem con116 : Tryd.prog.concrete 116 = true := by kernel_rfl
theorem con117 : Tryd.prog.concrete 117 = true := by kernel_rfl
theorem con118 : Tryd.prog.concrete 118 = true := by kernel_rfl
theorem con119 : Tryd.prog.concrete 119 = true := by kernel_rfl
theorem con120 : Tryd.prog.concrete 120 = true := by kernel_rfl
theorem con121 : Tryd.prog.concrete 121 = true := by kernel_rfl
theorem con122 : Tryd.prog.concrete 122 = true := by kernel_rfl
theorem con123 : Tryd.prog.concrete 123 = true := by kernel_rfl
theorem con124 : Tryd.prog.concrete 124 = true := by kernel_rfl
theorem con125 : Tryd.prog.concrete 125 = true := by kernel_rfl
theorem con126 : Tryd.prog.concrete 126 = true := by kernel_rfl
theorem con127 : Tryd.prog.concrete 127 = true := by kernel_rfl
theorem con128 : Tryd.prog.concrete 128 = true := by kernel_rfl
theorem con129 : Tryd.prog.concrete 129 = true := by kernel_rfl
theorem call3 : Callable Tryd.prog 3 := ⟨Tryd.f3, Tryd.func3, by kernel_rfl, by kernel_rfl⟩
theorem call4 : Callable Tryd.prog 4 := ⟨Tryd.f4, Tryd.func4, by kernel_rfl, by kernel_rfl⟩
theorem call5 : Callable Tryd.prog 5 := ⟨Tryd.f5, Tryd.func5, by kernel_rfl, by kernel_rfl⟩
theorem call6 : Callable Tryd.prog 6 := ⟨Tryd.f6, Tryd.func6, by kernel_rfl, by kernel_rfl⟩
theorem call7 : Callable Tryd.prog 7 := ⟨Tryd.f7, Tryd.func7, by kernel_rfl, by kernel_rfl⟩
theorem call8 : Callable Tryd.prog 8 := ⟨Tryd.f8, Tryd.func8, by kernel_rfl, by kernel_rfl⟩
theorem call9 : Callable Tryd.prog 9 := ⟨Tryd.f9, Tryd.func9, by kernel_rfl, by kernel_rfl⟩
theorem call10 : Callable Tryd.prog 10 := ⟨Tryd.f10, Tryd.func10, by kernel_rfl, by kernel_rfl⟩
theorem call11 : Callable Tryd.prog 11 := ⟨Tryd.f11, Tryd.func11, by kernel_rfl, by kernel_rfl⟩
theorem call12 : Callable Tryd.prog 12 := ⟨Tryd.f12, Tryd.func12, by kernel_rfl, by kernel_rfl⟩
theorem call13 : Callable Tryd.prog 13 := ⟨Tryd.f13, Tryd.func13, by kernel_rfl, by kernel_rfl⟩
theorem call14 : Callable Tryd.prog 14 := ⟨Tryd.f14, Tryd.func14, by kernel_rfl, by kernel_rfl⟩
theorem call15 : Callable Tryd.prog 15 := ⟨Tryd.f15, Tryd.func15, by kernel_rfl, by kernel_rfl⟩
theorem call16 : Callable Tryd.prog 16 := ⟨Tryd.f16, Tryd.func16, by kernel_rfl, by kernel_rfl⟩
theorem call17 : Callable Tryd.prog 17 := ⟨Tryd.f17, Tryd.func17, by kernel_rfl, by kernel_rfl⟩
theorem call18 : Callable Tryd.prog 18 := ⟨Tryd.f18, Tryd.func18, by kernel_rfl, by kernel_rfl⟩
theorem call19 : Callable Tryd.prog 19 := ⟨Tryd.f19, Tryd.func19, by kernel_rfl, by kernel_rfl⟩
theorem call20 : Callable Tryd.prog 20 := ⟨Tryd.f20, Tryd.func20, by kernel_rfl, by kernel_rfl⟩
theorem call21 : Callable Tryd.prog 21 := ⟨Tryd.f21, Tryd.func21, by kernel_rfl, by kernel_rfl⟩
theorem call22 : Callable Tryd.prog 22 := ⟨Tryd.f22, Tryd.func22, by kernel_rfl, by kernel_rfl⟩
theorem call23 : Callable Tryd.prog 23 := ⟨Tryd.f23, Tryd.func23, by kernel_rfl, by kernel_rfl⟩
theorem call24 : Callable Tryd.prog 24 := ⟨Tryd.f24, Tryd.func24, by kernel_rfl, by kernel_rfl⟩
theorem call25 : Callable Tryd.prog 25 := ⟨Tryd.f25, Tryd.func25, by kernel_rfl, by kernel_rfl⟩
theorem call26 : Callable Tryd.prog 26 := ⟨Tryd.f26, Tryd.func26, by kernel_rfl, by kernel_rfl⟩
theorem call27 : Callable Tryd.prog 27 := ⟨Tryd.f27, Tryd.func27, by kernel_rfl, by kernel_rfl⟩
theorem call28 : Callable Tryd.prog 28 := ⟨Tryd.f28, Tryd.func28, by kernel_rfl, by kernel_rfl⟩
theorem call29 : Callable Tryd.prog 29 := ⟨Tryd.f29, Tryd.func29, by kernel_rfl, by kernel_rfl⟩
theorem call30 : Callable Tryd.prog 30 := ⟨Tryd.f30, Tryd.func30, by kernel_rfl, by kernel_rfl⟩
theorem call31 : Callable Tryd.prog 31 := ⟨Tryd.f31, Tryd.func31, by kernel_rfl, by kernel_rfl⟩
theorem call32 : Callable Tryd.prog 32 := ⟨Tryd.f32, Tryd.func32, by kernel_rfl, by kernel_rfl⟩
theorem call33 : Callable Tryd.prog 33 := ⟨Tryd.f33, Tryd.func33, by kernel_rfl, by kernel_rfl⟩
theorem call34 : Callable Tryd.prog 34 := ⟨Tryd.f34, Tryd.func34, by kernel_rfl, by kernel_rfl⟩
theorem call35 : Callable Tryd.prog 35 := ⟨Tryd.f35, Tryd.func35, by kernel_rfl, by kernel_rfl⟩
theorem call36 : Callable Tryd.prog 36 := ⟨Tryd.f36, Tryd.func36, by kernel_rfl, by kernel_rfl⟩
theorem call37 : Callable Tryd.prog 37 := ⟨Tryd.f37, Tryd.func37, by kernel_rfl, by kernel_rfl⟩
theorem call38 : Callable Tryd.prog 38 := ⟨Tryd.f38, Tryd.func38, by kernel_rfl, by kernel_rfl⟩
theorem call39 : Callable Tryd.prog 39 := ⟨Tryd.f39, Tryd.func39, by kernel_rfl, by kernel_rfl⟩
theorem call40 : Callable Tryd.prog 40 := ⟨Tryd.f40, Tryd.func40, by kernel_rfl, by kernel_rfl⟩
theorem call41 : Callable Tryd.prog 41 := ⟨Tryd.f41, Tryd.func41, by kernel_rfl, by kernel_rfl⟩
theorem call42 : Callable Tryd.prog 42 := ⟨Tryd.f42, Tryd.func42, by kernel_rfl, by kernel_rfl⟩
theorem call43 : Callable Tryd.prog 43 := ⟨Tryd.f43, Tryd.func43, by kernel_rfl, by kernel_rfl⟩
theorem call44 : Callable Tryd.prog 44 := ⟨Tryd.f44, Tryd.func44, by kernel_rfl, by kernel_rfl⟩
theorem call45 : Callable Tryd.prog 45 := ⟨Tryd.f45, Tryd.func45, by kernel_rfl, by kernel_rfl⟩
theorem call46 : Callable Tryd.prog 46 := ⟨Tryd.f46, Tryd.func46, by kernel_rfl, by kernel_rfl⟩
theorem call47 : Callable Tryd.prog 47 := ⟨Tryd.f47, Tryd.func47, by kernel_rfl, by kernel_rfl⟩
theorem call48 : Callable Tryd.prog 48 := ⟨Tryd.f48, Tryd.func48, by kernel_rfl, by kernel_rfl⟩
theorem call49 : Callable Tryd.prog 49 := ⟨Tryd.f49, Tryd.func49, by kernel_rfl, by kernel_rfl⟩
theorem call50 : Callable Tryd.prog 50 := ⟨Tryd.f50, Tryd.func50, by kernel_rfl, by kernel_rfl⟩
theorem call51 : Callable Tryd.prog 51 := ⟨Tryd.f51, Tryd.func51, by kernel_rfl, by kernel_rfl⟩
theorem call52 : Callable Tryd.prog 52 := ⟨Tryd.f52, Tryd.func52, by kernel_rfl, by kernel_rfl⟩
theorem call53 : Callable Tryd.prog 53 := ⟨Tryd.f53, Tryd.func53, by kernel_rfl, by kernel_rfl⟩
theorem call54 : Callable Tryd.prog 54 := ⟨Tryd.f54, Tryd.func54, by kernel_rfl, by kernel_rfl⟩
theorem call55 : Callable Tryd.prog 55 := ⟨Tryd.f55, Tryd.func55, by kernel_rfl, by kernel_rfl⟩
theorem call56 : Callable Tryd.prog 56 := ⟨Tryd.f56, Tryd.func56, by kernel_rfl, by kernel_rfl⟩
theorem call58 : Callable Tryd.prog 58 := ⟨Tryd.f58, Tryd.func58, by kernel_rfl, by kernel_rfl⟩
theorem call59 : Callable Tryd.prog 59 := ⟨Tryd.f59, Tryd.func59, by kernel_rfl, by kernel_rfl⟩
theorem call60 : Callable Tryd.prog 60 := ⟨Tryd.f60, Tryd.func60, by kernel_rfl, by kernel_rfl⟩
theorem call61 : Callable Tryd.prog 61 := ⟨Tryd.f61, Tryd.func61, by kernel_rfl, by kernel_rfl⟩
theorem call62 : Callable Tryd.prog 62 := ⟨Tryd.f62, Tryd.func62, by kernel_rfl, by kernel_rfl⟩
theorem call63 : Callable Tryd.prog 63 := ⟨Tryd.f63, Tryd.func63, by kernel_rfl, by kernel_rfl⟩
theorem call64 : Callable Tryd.prog 64 := ⟨Tryd.f64, Tryd.func64, by kernel_rfl, by kernel_rfl⟩
theorem call65 : Callable Tryd.prog 65 := ⟨Tryd.f65, Tryd.func65, by kernel_rfl, by kernel_rfl⟩
theorem call66 : Callable Tryd.prog 66 := ⟨Tryd.f66, Tryd.func66, by kernel_rfl, by kernel_rfl⟩
theorem call67 : Callable Tryd.prog 67 := ⟨Tryd.f67, Tryd.func67, by kernel_rfl, by kernel_rfl⟩
theorem call68 : Callable Tryd.prog 68 := ⟨Tryd.f68, Tryd.func68, by kernel_rfl, by kernel_rfl⟩
theorem call69 : Callable Tryd.prog 69 := ⟨Tryd.f69, Tryd.func69, by kernel_rfl, by kernel_rfl⟩
theorem call70 : Callable Tryd.prog 70 := ⟨Tryd.f70, Tryd.func70, by kernel_rfl, by kernel_rfl⟩
theorem call71 : Callable Tryd.prog 71 := ⟨Tryd.f71, Tryd.func71, by kernel_rfl, by kernel_rfl⟩
theorem call72 : Callable Tryd.prog 72 := ⟨Tryd.f72, Tryd.func72, by kernel_rfl, by kernel_rfl⟩
theorem call76 : Callable Tryd.prog 76 := ⟨Tryd.f76, Tryd.func76, by kernel_rfl, by kernel_rfl⟩
theorem call77 : Callable Tryd.prog 77 := ⟨Tryd.f77, Tryd.func77, by kernel_rfl, by kernel_rfl⟩
theorem call78 : Callable Tryd.prog 78 := ⟨Tryd.f78, Tryd.func78, by kernel_rfl, by kernel_rfl⟩
theorem call79 : Callable Tryd.prog 79 := ⟨Tryd.f79, Tryd.func79, by kernel_rfl, by kernel_rfl⟩
theorem call80 : Callable Tryd.prog 80 := ⟨Tryd.f80, Tryd.func80, by kernel_rfl, by kernel_rfl⟩
theorem call81 : Callable Tryd.prog 81 := ⟨Tryd.f81, Tryd.func81, by kernel_rfl, by kernel_rfl⟩
theorem call84 : Callable Tryd.prog 84 := ⟨Tryd.f84, Tryd.func84, by kernel_rfl, by kernel_rfl⟩
end Go.Proofs.YtfdgnjbbchkgpaaDoorX
