/- What the program's tables say of its types and functions: closed facts. -/
import Derived.Test.YthocicjjighbnaaProg
import Derived.Test.YthocicjjighbnaaXB
import Derived.KernelRfl
namespace Go.Proofs.YthocicjjighbnaaX
open Go Go.Proofs
set_option maxRecDepth 100000

theorem follows : Try.prog.follows .mixedOrders = true := by kernel_rfl
theorem ti1 : TI Try.prog 1 .nilFunc 1 8 := by unfold TI; kernel_rfl
theorem sc1 : isScalar Try.prog 1 = true := by kernel_rfl
theorem ti2 : TI Try.prog 2 (.int .i64 0) 1 8 := by unfold TI; kernel_rfl
theorem sc2 : isScalar Try.prog 2 = true := by kernel_rfl
theorem ti3 : TI Try.prog 3 (.int .i64 0) 1 8 := by unfold TI; kernel_rfl
theorem sc3 : isScalar Try.prog 3 = true := by kernel_rfl
theorem ti4 : TI Try.prog 4 (.bool false) 1 1 := by unfold TI; kernel_rfl
theorem sc4 : isScalar Try.prog 4 = true := by kernel_rfl
theorem ti5 : TI Try.prog 5 (.int .u8 0) 1 1 := by unfold TI; kernel_rfl
theorem sc5 : isScalar Try.prog 5 = true := by kernel_rfl
theorem ti6 : TI Try.prog 6 (.int .u8 0) 1 1 := by unfold TI; kernel_rfl
theorem sc6 : isScalar Try.prog 6 = true := by kernel_rfl
theorem ti7 : TI Try.prog 7 (.agg #[(.int .i64 0), (.int .i64 0), (.bool false), (.int .u8 0)]) 4 24 := by unfold TI; kernel_rfl
theorem ag7 : isAggT Try.prog 7 = true := by kernel_rfl
theorem bz7 : BZ Try.prog 7 [(.int .i64 0), (.int .i64 0), (.bool false), (.int .u8 0)] [(0, 1), (1, 1), (2, 1), (3, 1)] := by unfold BZ; kernel_rfl
theorem ti8 : TI Try.prog 8 (.agg #[(.int .i64 0), (.int .i64 0), (.bool false), (.int .u8 0)]) 4 24 := by unfold TI; kernel_rfl
theorem ag8 : isAggT Try.prog 8 = true := by kernel_rfl
theorem bz8 : BZ Try.prog 8 [(.int .i64 0), (.int .i64 0), (.bool false), (.int .u8 0)] [(0, 1), (1, 1), (2, 1), (3, 1)] := by unfold BZ; kernel_rfl
theorem ti9 : TI Try.prog 9 (.string .empty) 1 16 := by unfold TI; kernel_rfl
theorem sc9 : isScalar Try.prog 9 = true := by kernel_rfl
theorem ti10 : TI Try.prog 10 (.string .empty) 1 16 := by unfold TI; kernel_rfl
theorem sc10 : isScalar Try.prog 10 = true := by kernel_rfl
theorem ti11 : TI Try.prog 11 (.string .empty) 1 16 := by unfold TI; kernel_rfl
theorem sc11 : isScalar Try.prog 11 = true := by kernel_rfl
theorem ti12 : TI Try.prog 12 (.int .u64 0) 1 8 := by unfold TI; kernel_rfl
theorem sc12 : isScalar Try.prog 12 = true := by kernel_rfl
theorem ti13 : TI Try.prog 13 (.agg #[(.string .empty), (.int .u64 0)]) 2 24 := by unfold TI; kernel_rfl
theorem ag13 : isAggT Try.prog 13 = true := by kernel_rfl
theorem bz13 : BZ Try.prog 13 [(.string .empty), (.int .u64 0)] [(0, 1), (1, 1)] := by unfold BZ; kernel_rfl
theorem ti14 : TI Try.prog 14 (.agg #[(.string .empty), (.int .u64 0)]) 2 24 := by unfold TI; kernel_rfl
theorem ag14 : isAggT Try.prog 14 = true := by kernel_rfl
theorem bz14 : BZ Try.prog 14 [(.string .empty), (.int .u64 0)] [(0, 1), (1, 1)] := by unfold BZ; kernel_rfl
theorem ti15 : TI Try.prog 15 (.pointer none) 1 8 := by unfold TI; kernel_rfl
theorem sc15 : isScalar Try.prog 15 = true := by kernel_rfl
theorem ti16 : TI Try.prog 16 (.pointer none) 1 8 := by unfold TI; kernel_rfl
theorem sc16 : isScalar Try.prog 16 = true := by kernel_rfl
theorem ti17 : TI Try.prog 17 (.pointer none) 1 8 := by unfold TI; kernel_rfl
theorem sc17 : isScalar Try.prog 17 = true := by kernel_rfl
theorem ti18 : TI Try.prog 18 (.agg #[(.pointer none)]) 1 8 := by unfold TI; kernel_rfl
theorem ag18 : isAggT Try.prog 18 = true := by kernel_rfl
theorem bz18 : BZ Try.prog 18 [(.pointer none)] [(0, 1)] := by unfold BZ; kernel_rfl
theorem ti19 : TI Try.prog 19 (.agg #[(.pointer none)]) 1 8 := by unfold TI; kernel_rfl
theorem ag19 : isAggT Try.prog 19 = true := by kernel_rfl
theorem bz19 : BZ Try.prog 19 [(.pointer none)] [(0, 1)] := by unfold BZ; kernel_rfl
theorem ti20 : TI Try.prog 20 .nilIface 1 16 := by unfold TI; kernel_rfl
theorem sc20 : isScalar Try.prog 20 = true := by kernel_rfl
theorem ti21 : TI Try.prog 21 (.int .i32 0) 1 4 := by unfold TI; kernel_rfl
theorem sc21 : isScalar Try.prog 21 = true := by kernel_rfl
theorem ti22 : TI Try.prog 22 (.slice none 0 0) 1 24 := by unfold TI; kernel_rfl
theorem sc22 : isScalar Try.prog 22 = true := by kernel_rfl
theorem ti23 : TI Try.prog 23 .nilFunc 1 8 := by unfold TI; kernel_rfl
theorem sc23 : isScalar Try.prog 23 = true := by kernel_rfl
theorem ti24 : TI Try.prog 24 (.pointer none) 1 8 := by unfold TI; kernel_rfl
theorem sc24 : isScalar Try.prog 24 = true := by kernel_rfl
theorem ti25 : TI Try.prog 25 .nilFunc 1 8 := by unfold TI; kernel_rfl
theorem sc25 : isScalar Try.prog 25 = true := by kernel_rfl
theorem ti26 : TI Try.prog 26 (.int .i64 0) 1 8 := by unfold TI; kernel_rfl
theorem sc26 : isScalar Try.prog 26 = true := by kernel_rfl
theorem ti27 : TI Try.prog 27 .nilFunc 1 8 := by unfold TI; kernel_rfl
theorem sc27 : isScalar Try.prog 27 = true := by kernel_rfl
theorem ti28 : TI Try.prog 28 (.pointer none) 1 8 := by unfold TI; kernel_rfl
theorem sc28 : isScalar Try.prog 28 = true := by kernel_rfl
theorem ti29 : TI Try.prog 29 (.slice none 0 0) 1 24 := by unfold TI; kernel_rfl
theorem sc29 : isScalar Try.prog 29 = true := by kernel_rfl
theorem ti31 : TI Try.prog 31 .nilFunc 1 8 := by unfold TI; kernel_rfl
theorem sc31 : isScalar Try.prog 31 = true := by kernel_rfl
theorem ti32 : TI Try.prog 32 .nilFunc 1 8 := by unfold TI; kernel_rfl
theorem sc32 : isScalar Try.prog 32 = true := by kernel_rfl
theorem ti33 : TI Try.prog 33 (.slice none 0 0) 1 24 := by unfold TI; kernel_rfl
theorem sc33 : isScalar Try.prog 33 = true := by kernel_rfl
theorem ti34 : TI Try.prog 34 .nilFunc 1 8 := by unfold TI; kernel_rfl
theorem sc34 : isScalar Try.prog 34 = true := by kernel_rfl
theorem ti36 : TI Try.prog 36 .nilFunc 1 8 := by unfold TI; kernel_rfl
theorem sc36 : isScalar Try.prog 36 = true := by kernel_rfl
theorem ti37 : TI Try.prog 37 (.agg #[(.int .i64 0), (.int .i64 0)]) 2 16 := by unfold TI; kernel_rfl
theorem ag37 : isAggT Try.prog 37 = true := by kernel_rfl
theorem ez37 : EZ Try.prog 37 2 = true := by kernel_rfl
theorem bz37 : BZ Try.prog 37 [(.int .i64 0), (.int .i64 0)] [(0, 1), (1, 1)] := by unfold BZ; kernel_rfl
theorem ti38 : TI Try.prog 38 (.agg #[(.int .i64 0), (.int .i64 0)]) 2 16 := by unfold TI; kernel_rfl
theorem ag38 : isAggT Try.prog 38 = true := by kernel_rfl
theorem ez38 : EZ Try.prog 38 2 = true := by kernel_rfl
theorem bz38 : BZ Try.prog 38 [(.int .i64 0), (.int .i64 0)] [(0, 1), (1, 1)] := by unfold BZ; kernel_rfl
theorem ti39 : TI Try.prog 39 .nilFunc 1 8 := by unfold TI; kernel_rfl
theorem sc39 : isScalar Try.prog 39 = true := by kernel_rfl
theorem ti40 : TI Try.prog 40 .nilFunc 1 8 := by unfold TI; kernel_rfl
theorem sc40 : isScalar Try.prog 40 = true := by kernel_rfl
theorem ti41 : TI Try.prog 41 .nilFunc 1 8 := by unfold TI; kernel_rfl
theorem sc41 : isScalar Try.prog 41 = true := by kernel_rfl
theorem ti42 : TI Try.prog 42 .nilFunc 1 8 := by unfold TI; kernel_rfl
theorem sc42 : isScalar Try.prog 42 = true := by kernel_rfl
theorem ti43 : TI Try.prog 43 .nilFunc 1 8 := by unfold TI; kernel_rfl
theorem sc43 : isScalar Try.prog 43 = true := by kernel_rfl
theorem ti45 : TI Try.prog 45 .nilFunc 1 8 := by unfold TI; kernel_rfl
theorem sc45 : isScalar Try.prog 45 = true := by kernel_rfl
theorem ti46 : TI Try.prog 46 .nilFunc 1 8 := by unfold TI; kernel_rfl
theorem sc46 : isScalar Try.prog 46 = true := by kernel_rfl
theorem ti47 : TI Try.prog 47 .nilFunc 1 8 := by unfold TI; kernel_rfl
theorem sc47 : isScalar Try.prog 47 = true := by kernel_rfl
theorem ti48 : TI Try.prog 48 .nilFunc 1 8 := by unfold TI; kernel_rfl
theorem sc48 : isScalar Try.prog 48 = true := by kernel_rfl
theorem ti49 : TI Try.prog 49 .nilFunc 1 8 := by unfold TI; kernel_rfl
theorem sc49 : isScalar Try.prog 49 = true := by kernel_rfl
theorem ti50 : TI Try.prog 50 .nilFunc 1 8 := by unfold TI; kernel_rfl
theorem sc50 : isScalar Try.prog 50 = true := by kernel_rfl
theorem ti51 : TI Try.prog 51 .nilFunc 1 8 := by unfold TI; kernel_rfl
theorem sc51 : isScalar Try.prog 51 = true := by kernel_rfl
theorem ti52 : TI Try.prog 52 .nilFunc 1 8 := by unfold TI; kernel_rfl
theorem sc52 : isScalar Try.prog 52 = true := by kernel_rfl
theorem ti53 : TI Try.prog 53 .nilFunc 1 8 := by unfold TI; kernel_rfl
theorem sc53 : isScalar Try.prog 53 = true := by kernel_rfl
theorem ti54 : TI Try.prog 54 .nilFunc 1 8 := by unfold TI; kernel_rfl
theorem sc54 : isScalar Try.prog 54 = true := by kernel_rfl
theorem ti55 : TI Try.prog 55 .nilFunc 1 8 := by unfold TI; kernel_rfl
theorem sc55 : isScalar Try.prog 55 = true := by kernel_rfl
theorem ti56 : TI Try.prog 56 (.slice none 0 0) 1 24 := by unfold TI; kernel_rfl
theorem sc56 : isScalar Try.prog 56 = true := by kernel_rfl
theorem ti57 : TI Try.prog 57 (.slice none 0 0) 1 24 := by unfold TI; kernel_rfl
theorem sc57 : isScalar Try.prog 57 = true := by kernel_rfl
theorem ti58 : TI Try.prog 58 (.agg #[(.slice none 0 0), (.slice none 0 0), (.int .i64 0), (.bool false)]) 4 64 := by unfold TI; kernel_rfl
theorem ag58 : isAggT Try.prog 58 = true := by kernel_rfl
theorem bz58 : BZ Try.prog 58 [(.slice none 0 0), (.slice none 0 0), (.int .i64 0), (.bool false)] [(0, 1), (1, 1), (2, 1), (3, 1)] := by unfold BZ; kernel_rfl
theorem ti59 : TI Try.prog 59 (.agg #[(.slice none 0 0), (.slice none 0 0), (.int .i64 0), (.bool false)]) 4 64 := by unfold TI; kernel_rfl
theorem ag59 : isAggT Try.prog 59 = true := by kernel_rfl
theorem bz59 : BZ Try.prog 59 [(.slice none 0 0), (.slice none 0 0), (.int .i64 0), (.bool false)] [(0, 1), (1, 1), (2, 1), (3, 1)] := by unfold BZ; kernel_rfl
theorem ti60 : TI Try.prog 60 .nilFunc 1 8 := by unfold TI; kernel_rfl
theorem sc60 : isScalar Try.prog 60 = true := by kernel_rfl
theorem ti61 : TI Try.prog 61 .nilFunc 1 8 := by unfold TI; kernel_rfl
theorem sc61 : isScalar Try.prog 61 = true := by kernel_rfl
theorem ti62 : TI Try.prog 62 .nilFunc 1 8 := by unfold TI; kernel_rfl
theorem sc62 : isScalar Try.prog 62 = true := by kernel_rfl
theorem ti63 : TI Try.prog 63 (.agg #[(.int .i64 0), (.int .i64 0), (.int .i64 0), (.int .i64 0), (.int .i64 0)]) 5 40 := by unfold TI; kernel_rfl
theorem ag63 : isAggT Try.prog 63 = true := by kernel_rfl
theorem ez63 : EZ Try.prog 63 5 = true := by kernel_rfl
theorem bz63 : BZ Try.prog 63 [(.int .i64 0), (.int .i64 0), (.int .i64 0), (.int .i64 0), (.int .i64 0)] [(0, 1), (1, 1), (2, 1), (3, 1), (4, 1)] := by unfold BZ; kernel_rfl
theorem ti64 : TI Try.prog 64 (.agg #[(.int .i64 0), (.int .i64 0), (.int .i64 0), (.int .i64 0), (.int .i64 0)]) 5 40 := by unfold TI; kernel_rfl
theorem ag64 : isAggT Try.prog 64 = true := by kernel_rfl
theorem ez64 : EZ Try.prog 64 5 = true := by kernel_rfl
theorem bz64 : BZ Try.prog 64 [(.int .i64 0), (.int .i64 0), (.int .i64 0), (.int .i64 0), (.int .i64 0)] [(0, 1), (1, 1), (2, 1), (3, 1), (4, 1)] := by unfold BZ; kernel_rfl
theorem ti66 : TI Try.prog 66 .nilFunc 1 8 := by unfold TI; kernel_rfl
theorem sc66 : isScalar Try.prog 66 = true := by kernel_rfl
theorem ti67 : TI Try.prog 67 .nilFunc 1 8 := by unfold TI; kernel_rfl
theorem sc67 : isScalar Try.prog 67 = true := by kernel_rfl
theorem ti68 : TI Try.prog 68 (.agg #[(.pointer none), (.int .i64 0), (.int .i64 0), (.int .i64 0), (.int .i64 0), (.int .i64 0), (.int .i64 0), (.int .i64 0), (.int .i64 0)]) 9 72 := by unfold TI; kernel_rfl
theorem ag68 : isAggT Try.prog 68 = true := by kernel_rfl
theorem bz68 : BZ Try.prog 68 [(.pointer none), (.int .i64 0), (.int .i64 0), (.int .i64 0), (.int .i64 0), (.int .i64 0), (.int .i64 0), (.int .i64 0), (.int .i64 0)] [(0, 1), (1, 5), (6, 1), (7, 1), (8, 1)] := by unfold BZ; kernel_rfl
theorem ti69 : TI Try.prog 69 (.agg #[(.pointer none), (.int .i64 0), (.int .i64 0), (.int .i64 0), (.int .i64 0), (.int .i64 0), (.int .i64 0), (.int .i64 0), (.int .i64 0)]) 9 72 := by unfold TI; kernel_rfl
theorem ag69 : isAggT Try.prog 69 = true := by kernel_rfl
theorem bz69 : BZ Try.prog 69 [(.pointer none), (.int .i64 0), (.int .i64 0), (.int .i64 0), (.int .i64 0), (.int .i64 0), (.int .i64 0), (.int .i64 0), (.int .i64 0)] [(0, 1), (1, 5), (6, 1), (7, 1), (8, 1)] := by unfold BZ; kernel_rfl
theorem ti70 : TI Try.prog 70 .nilFunc 1 8 := by unfold TI; kernel_rfl
theorem sc70 : isScalar Try.prog 70 = true := by kernel_rfl
theorem ti71 : TI Try.prog 71 .nilFunc 1 8 := by unfold TI; kernel_rfl
theorem sc71 : isScalar Try.prog 71 = true := by kernel_rfl
theorem ti72 : TI Try.prog 72 (.agg #[(.int .u8 0), (.int .u8 0), (.int .u8 0), (.int .u8 0), (.int .u8 0), (.int .u8 0), (.int .u8 0), (.int .u8 0), (.int .u8 0), (.int .u8 0), (.int .u8 0), (.int .u8 0), (.int .u8 0), (.int .u8 0), (.int .u8 0), (.int .u8 0), (.int .u8 0), (.int .u8 0), (.int .u8 0), (.int .u8 0), (.int .u8 0), (.int .u8 0), (.int .u8 0), (.int .u8 0), (.int .u8 0), (.int .u8 0), (.int .u8 0), (.int .u8 0), (.int .u8 0), (.int .u8 0), (.int .u8 0), (.int .u8 0)]) 32 32 := by unfold TI; kernel_rfl
theorem ag72 : isAggT Try.prog 72 = true := by kernel_rfl
theorem ti73 : TI Try.prog 73 (.agg #[(.int .i64 0), (.int .u8 0), (.int .u8 0), (.int .u8 0), (.int .u8 0), (.int .u8 0), (.int .u8 0), (.int .u8 0), (.int .u8 0), (.int .u8 0), (.int .u8 0), (.int .u8 0), (.int .u8 0), (.int .u8 0), (.int .u8 0), (.int .u8 0), (.int .u8 0), (.int .u8 0), (.int .u8 0), (.int .u8 0), (.int .u8 0), (.int .u8 0), (.int .u8 0), (.int .u8 0), (.int .u8 0), (.int .u8 0), (.int .u8 0), (.int .u8 0), (.int .u8 0), (.int .u8 0), (.int .u8 0), (.int .u8 0), (.int .u8 0)]) 33 40 := by unfold TI; kernel_rfl
theorem ag73 : isAggT Try.prog 73 = true := by kernel_rfl
theorem bz73 : BZ Try.prog 73 [(.int .i64 0), (.int .u8 0), (.int .u8 0), (.int .u8 0), (.int .u8 0), (.int .u8 0), (.int .u8 0), (.int .u8 0), (.int .u8 0), (.int .u8 0), (.int .u8 0), (.int .u8 0), (.int .u8 0), (.int .u8 0), (.int .u8 0), (.int .u8 0), (.int .u8 0), (.int .u8 0), (.int .u8 0), (.int .u8 0), (.int .u8 0), (.int .u8 0), (.int .u8 0), (.int .u8 0), (.int .u8 0), (.int .u8 0), (.int .u8 0), (.int .u8 0), (.int .u8 0), (.int .u8 0), (.int .u8 0), (.int .u8 0), (.int .u8 0)] [(0, 1), (1, 32)] := by unfold BZ; kernel_rfl
theorem ti74 : TI Try.prog 74 (.agg #[(.int .i64 0), (.int .u8 0), (.int .u8 0), (.int .u8 0), (.int .u8 0), (.int .u8 0), (.int .u8 0), (.int .u8 0), (.int .u8 0), (.int .u8 0), (.int .u8 0), (.int .u8 0), (.int .u8 0), (.int .u8 0), (.int .u8 0), (.int .u8 0), (.int .u8 0), (.int .u8 0), (.int .u8 0), (.int .u8 0), (.int .u8 0), (.int .u8 0), (.int .u8 0), (.int .u8 0), (.int .u8 0), (.int .u8 0), (.int .u8 0), (.int .u8 0), (.int .u8 0), (.int .u8 0), (.int .u8 0), (.int .u8 0), (.int .u8 0)]) 33 40 := by unfold TI; kernel_rfl
theorem ag74 : isAggT Try.prog 74 = true := by kernel_rfl
theorem bz74 : BZ Try.prog 74 [(.int .i64 0), (.int .u8 0), (.int .u8 0), (.int .u8 0), (.int .u8 0), (.int .u8 0), (.int .u8 0), (.int .u8 0), (.int .u8 0), (.int .u8 0), (.int .u8 0), (.int .u8 0), (.int .u8 0), (.int .u8 0), (.int .u8 0), (.int .u8 0), (.int .u8 0), (.int .u8 0), (.int .u8 0), (.int .u8 0), (.int .u8 0), (.int .u8 0), (.int .u8 0), (.int .u8 0), (.int .u8 0), (.int .u8 0), (.int .u8 0), (.int .u8 0), (.int .u8 0), (.int .u8 0), (.int .u8 0), (.int .u8 0), (.int .u8 0)] [(0, 1), (1, 32)] := by unfold BZ; kernel_rfl
theorem ti75 : TI Try.prog 75 (.int .u64 0) 1 8 := by unfold TI; kernel_rfl
theorem sc75 : isScalar Try.prog 75 = true := by kernel_rfl
theorem ti76 : TI Try.prog 76 .nilFunc 1 8 := by unfold TI; kernel_rfl
theorem sc76 : isScalar Try.prog 76 = true := by kernel_rfl
theorem ti78 : TI Try.prog 78 .nilFunc 1 8 := by unfold TI; kernel_rfl
theorem sc78 : isScalar Try.prog 78 = true := by kernel_rfl
theorem ti79 : TI Try.prog 79 .nilFunc 1 8 := by unfold TI; kernel_rfl
theorem sc79 : isScalar Try.prog 79 = true := by kernel_rfl
theorem ti81 : TI Try.prog 81 .nilFunc 1 8 := by unfold TI; kernel_rfl
theorem sc81 : isScalar Try.prog 81 = true := by kernel_rfl
theorem ti83 : TI Try.prog 83 .nilFunc 1 8 := by unfold TI; kernel_rfl
theorem sc83 : isScalar Try.prog 83 = true := by kernel_rfl
theorem ti85 : TI Try.prog 85 .nilFunc 1 8 := by unfold TI; kernel_rfl
theorem sc85 : isScalar Try.prog 85 = true := by kernel_rfl
theorem ti86 : TI Try.prog 86 .nilFunc 1 8 := by unfold TI; kernel_rfl
theorem sc86 : isScalar Try.prog 86 = true := by kernel_rfl
theorem ti87 : TI Try.prog 87 .nilFunc 1 8 := by unfold TI; kernel_rfl
theorem sc87 : isScalar Try.prog 87 = true := by kernel_rfl
theorem ti88 : TI Try.prog 88 (.int .u32 0) 1 4 := by unfold TI; kernel_rfl
theorem sc88 : isScalar Try.prog 88 = true := by kernel_rfl
theorem ti89 : TI Try.prog 89 .nilFunc 1 8 := by unfold TI; kernel_rfl
theorem sc89 : isScalar Try.prog 89 = true := by kernel_rfl
theorem ti90 : TI Try.prog 90 .nilFunc 1 8 := by unfold TI; kernel_rfl
theorem sc90 : isScalar Try.prog 90 = true := by kernel_rfl
theorem ti91 : TI Try.prog 91 (.agg #[(.pointer none), (.pointer none), (.pointer none), (.string .empty)]) 4 40 := by unfold TI; kernel_rfl
theorem ag91 : isAggT Try.prog 91 = true := by kernel_rfl
theorem bz91 : BZ Try.prog 91 [(.pointer none), (.pointer none), (.pointer none), (.string .empty)] [(0, 1), (1, 1), (2, 1), (3, 1)] := by unfold BZ; kernel_rfl
theorem ti92 : TI Try.prog 92 (.agg #[(.pointer none), (.pointer none), (.pointer none), (.string .empty)]) 4 40 := by unfold TI; kernel_rfl
theorem ag92 : isAggT Try.prog 92 = true := by kernel_rfl
theorem bz92 : BZ Try.prog 92 [(.pointer none), (.pointer none), (.pointer none), (.string .empty)] [(0, 1), (1, 1), (2, 1), (3, 1)] := by unfold BZ; kernel_rfl
theorem ti93 : TI Try.prog 93 (.agg #[]) 0 0 := by unfold TI; kernel_rfl
theorem ag93 : isAggT Try.prog 93 = true := by kernel_rfl
theorem ti94 : TI Try.prog 94 (.agg #[]) 0 0 := by unfold TI; kernel_rfl
theorem ag94 : isAggT Try.prog 94 = true := by kernel_rfl
theorem bz94 : BZ Try.prog 94 [] [(0, 0)] := by unfold BZ; kernel_rfl
theorem ti95 : TI Try.prog 95 (.agg #[]) 0 0 := by unfold TI; kernel_rfl
theorem ag95 : isAggT Try.prog 95 = true := by kernel_rfl
theorem bz95 : BZ Try.prog 95 [] [(0, 0)] := by unfold BZ; kernel_rfl
theorem ti96 : TI Try.prog 96 (.int .u8 0) 1 1 := by unfold TI; kernel_rfl
theorem sc96 : isScalar Try.prog 96 = true := by kernel_rfl
theorem ti97 : TI Try.prog 97 (.int .u8 0) 1 1 := by unfold TI; kernel_rfl
theorem sc97 : isScalar Try.prog 97 = true := by kernel_rfl
theorem ti98 : TI Try.prog 98 .nilFunc 1 8 := by unfold TI; kernel_rfl
theorem sc98 : isScalar Try.prog 98 = true := by kernel_rfl
theorem ti99 : TI Try.prog 99 (.pointer none) 1 8 := by unfold TI; kernel_rfl
theorem sc99 : isScalar Try.prog 99 = true := by kernel_rfl
theorem ti100 : TI Try.prog 100 (.int .i32 0) 1 4 := by unfold TI; kernel_rfl
theorem sc100 : isScalar Try.prog 100 = true := by kernel_rfl
theorem ti101 : TI Try.prog 101 (.int .i32 0) 1 4 := by unfold TI; kernel_rfl
theorem sc101 : isScalar Try.prog 101 = true := by kernel_rfl
theorem ti102 : TI Try.prog 102 (.agg #[(.int .u64 0), (.int .u64 0), (.int .u32 0), (.int .u8 0), (.int .u8 0), (.int .u8 0), (.int .u8 0), .nilFunc, (.pointer none), (.int .i32 0), (.int .i32 0)]) 11 48 := by unfold TI; kernel_rfl
theorem ag102 : isAggT Try.prog 102 = true := by kernel_rfl
theorem bz102 : BZ Try.prog 102 [(.int .u64 0), (.int .u64 0), (.int .u32 0), (.int .u8 0), (.int .u8 0), (.int .u8 0), (.int .u8 0), .nilFunc, (.pointer none), (.int .i32 0), (.int .i32 0)] [(0, 1), (1, 1), (2, 1), (3, 1), (4, 1), (5, 1), (6, 1), (7, 1), (8, 1), (9, 1), (10, 1)] := by unfold BZ; kernel_rfl
theorem ti103 : TI Try.prog 103 (.agg #[(.int .u64 0), (.int .u64 0), (.int .u32 0), (.int .u8 0), (.int .u8 0), (.int .u8 0), (.int .u8 0), .nilFunc, (.pointer none), (.int .i32 0), (.int .i32 0)]) 11 48 := by unfold TI; kernel_rfl
theorem ag103 : isAggT Try.prog 103 = true := by kernel_rfl
theorem bz103 : BZ Try.prog 103 [(.int .u64 0), (.int .u64 0), (.int .u32 0), (.int .u8 0), (.int .u8 0), (.int .u8 0), (.int .u8 0), .nilFunc, (.pointer none), (.int .i32 0), (.int .i32 0)] [(0, 1), (1, 1), (2, 1), (3, 1), (4, 1), (5, 1), (6, 1), (7, 1), (8, 1), (9, 1), (10, 1)] := by unfold BZ; kernel_rfl
theorem ti104 : TI Try.prog 104 (.pointer none) 1 8 := by unfold TI; kernel_rfl
theorem sc104 : isScalar Try.prog 104 = true := by kernel_rfl
theorem con1 : Try.prog.concrete 1 = true := by kernel_rfl
theorem con2 : Try.prog.concrete 2 = true := by kernel_rfl
theorem con3 : Try.prog.concrete 3 = true := by kernel_rfl
theorem con4 : Try.prog.concrete 4 = true := by kernel_rfl
theorem con5 : Try.prog.concrete 5 = true := by kernel_rfl
theorem con6 : Try.prog.concrete 6 = true := by kernel_rfl
theorem con7 : Try.prog.concrete 7 = true := by kernel_rfl
theorem con8 : Try.prog.concrete 8 = true := by kernel_rfl
theorem con9 : Try.prog.concrete 9 = true := by kernel_rfl
theorem con10 : Try.prog.concrete 10 = true := by kernel_rfl
theorem con11 : Try.prog.concrete 11 = true := by kernel_rfl
theorem con12 : Try.prog.concrete 12 = true := by kernel_rfl
theorem con13 : Try.prog.concrete 13 = true := by kernel_rfl
theorem con14 : Try.prog.concrete 14 = true := by kernel_rfl
theorem con15 : Try.prog.concrete 15 = true := by kernel_rfl
theorem con16 : Try.prog.concrete 16 = true := by kernel_rfl
theorem con17 : Try.prog.concrete 17 = true := by kernel_rfl
theorem con18 : Try.prog.concrete 18 = true := by kernel_rfl
theorem con19 : Try.prog.concrete 19 = true := by kernel_rfl
theorem con21 : Try.prog.concrete 21 = true := by kernel_rfl
theorem con22 : Try.prog.concrete 22 = true := by kernel_rfl
theorem con23 : Try.prog.concrete 23 = true := by kernel_rfl
theorem con24 : Try.prog.concrete 24 = true := by kernel_rfl
theorem con25 : Try.prog.concrete 25 = true := by kernel_rfl
theorem con26 : Try.prog.concrete 26 = true := by kernel_rfl
theorem con27 : Try.prog.concrete 27 = true := by kernel_rfl
theorem con28 : Try.prog.concrete 28 = true := by kernel_rfl
theorem con29 : Try.prog.concrete 29 = true := by kernel_rfl
theorem con31 : Try.prog.concrete 31 = true := by kernel_rfl
theorem con32 : Try.prog.concrete 32 = true := by kernel_rfl
theorem con33 : Try.prog.concrete 33 = true := by kernel_rfl
theorem con34 : Try.prog.concrete 34 = true := by kernel_rfl
theorem con36 : Try.prog.concrete 36 = true := by kernel_rfl
theorem con37 : Try.prog.concrete 37 = true := by kernel_rfl
theorem con38 : Try.prog.concrete 38 = true := by kernel_rfl
theorem con39 : Try.prog.concrete 39 = true := by kernel_rfl
theorem con40 : Try.prog.concrete 40 = true := by kernel_rfl
theorem con41 : Try.prog.concrete 41 = true := by kernel_rfl
theorem con42 : Try.prog.concrete 42 = true := by kernel_rfl
theorem con43 : Try.prog.concrete 43 = true := by kernel_rfl
theorem con45 : Try.prog.concrete 45 = true := by kernel_rfl
theorem con46 : Try.prog.concrete 46 = true := by kernel_rfl
theorem con47 : Try.prog.concrete 47 = true := by kernel_rfl
theorem con48 : Try.prog.concrete 48 = true := by kernel_rfl
theorem con49 : Try.prog.concrete 49 = true := by kernel_rfl
theorem con50 : Try.prog.concrete 50 = true := by kernel_rfl
theorem con51 : Try.prog.concrete 51 = true := by kernel_rfl
theorem con52 : Try.prog.concrete 52 = true := by kernel_rfl
theorem con53 : Try.prog.concrete 53 = true := by kernel_rfl
theorem con54 : Try.prog.concrete 54 = true := by kernel_rfl
theorem con55 : Try.prog.concrete 55 = true := by kernel_rfl
theorem con56 : Try.prog.concrete 56 = true := by kernel_rfl
theorem con57 : Try.prog.concrete 57 = true := by kernel_rfl
theorem con58 : Try.prog.concrete 58 = true := by kernel_rfl
theorem con59 : Try.prog.concrete 59 = true := by kernel_rfl
theorem con60 : Try.prog.concrete 60 = true := by kernel_rfl
theorem con61 : Try.prog.concrete 61 = true := by kernel_rfl
theorem con62 : Try.prog.concrete 62 = true := by kernel_rfl
theorem con63 : Try.prog.concrete 63 = true := by kernel_rfl
theorem con64 : Try.prog.concrete 64 = true := by kernel_rfl
theorem con66 : Try.prog.concrete 66 = true := by kernel_rfl
theorem con67 : Try.prog.concrete 67 = true := by kernel_rfl
theorem con68 : Try.prog.concrete 68 = true := by kernel_rfl
theorem con69 : Try.prog.concrete 69 = true := by kernel_rfl
theorem con70 : Try.prog.concrete 70 = true := by kernel_rfl
theorem con71 : Try.prog.concrete 71 = true := by kernel_rfl
theorem con72 : Try.prog.concrete 72 = true := by kernel_rfl
theorem con73 : Try.prog.concrete 73 = true := by kernel_rfl
theorem con74 : Try.prog.concrete 74 = true := by kernel_rfl
theorem con75 : Try.prog.concrete 75 = true := by kernel_rfl
theorem con76 : Try.prog.concrete 76 = true := by kernel_rfl
theorem con78 : Try.prog.concrete 78 = true := by kernel_rfl
theorem con79 : Try.prog.concrete 79 = true := by kernel_rfl
theorem con81 : Try.prog.concrete 81 = true := by kernel_rfl
theorem con83 : Try.prog.concrete 83 = true := by kernel_rfl
theorem con85 : Try.prog.concrete 85 = true := by kernel_rfl
theorem con86 : Try.prog.concrete 86 = true := by kernel_rfl
theorem con87 : Try.prog.concrete 87 = true := by kernel_rfl
theorem con88 : Try.prog.concrete 88 = true := by kernel_rfl
theorem con89 : Try.prog.concrete 89 = true := by kernel_rfl
theorem con90 : Try.prog.concrete 90 = true := by kernel_rfl
theorem con91 : Try.prog.concrete 91 = true := by kernel_rfl
theorem con92 : Try.prog.concrete 92 = true := by kernel_rfl
theorem con93 : Try.prog.concrete 93 = true := by kernel_rfl
theorem con94 : Try.prog.concrete 94 = true := by kernel_rfl
theorem con95 : Try.prog.concrete 95 = true := by kernel_rfl
theorem con96 : Try.prog.concrete 96 = true := by kernel_rfl
theorem con97 : Try.prog.concrete 97 = true := by kernel_rfl
theorem con98 : Try.prog.concrete 98 = true := by kernel_rfl
theorem con99 : Try.prog.concrete 99 = true := by kernel_rfl
theorem con100 : Try.prog.concrete 100 = true := by kernel_rfl
theorem con101 : Try.prog.concrete 101 = true := by kernel_rfl
theorem con102 : Try.prog.concrete 102 = true := by kernel_rfl
theorem con103 : Try.prog.concrete 103 = true := by kernel_rfl
theorem con104 : Try.prog.concrete 104 = true := by kernel_rfl
theorem call3 : Callable Try.prog 3 := ⟨Try.f3, Try.func3, by kernel_rfl, by kernel_rfl⟩
theorem call4 : Callable Try.prog 4 := ⟨Try.f4, Try.func4, by kernel_rfl, by kernel_rfl⟩
theorem call5 : Callable Try.prog 5 := ⟨Try.f5, Try.func5, by kernel_rfl, by kernel_rfl⟩
theorem call6 : Callable Try.prog 6 := ⟨Try.f6, Try.func6, by kernel_rfl, by kernel_rfl⟩
theorem call7 : Callable Try.prog 7 := ⟨Try.f7, Try.func7, by kernel_rfl, by kernel_rfl⟩
theorem call8 : Callable Try.prog 8 := ⟨Try.f8, Try.func8, by kernel_rfl, by kernel_rfl⟩
theorem call9 : Callable Try.prog 9 := ⟨Try.f9, Try.func9, by kernel_rfl, by kernel_rfl⟩
theorem call10 : Callable Try.prog 10 := ⟨Try.f10, Try.func10, by kernel_rfl, by kernel_rfl⟩
theorem call11 : Callable Try.prog 11 := ⟨Try.f11, Try.func11, by kernel_rfl, by kernel_rfl⟩
theorem call12 : Callable Try.prog 12 := ⟨Try.f12, Try.func12, by kernel_rfl, by kernel_rfl⟩
theorem call13 : Callable Try.prog 13 := ⟨Try.f13, Try.func13, by kernel_rfl, by kernel_rfl⟩
theorem call14 : Callable Try.prog 14 := ⟨Try.f14, Try.func14, by kernel_rfl, by kernel_rfl⟩
theorem call15 : Callable Try.prog 15 := ⟨Try.f15, Try.func15, by kernel_rfl, by kernel_rfl⟩
theorem call16 : Callable Try.prog 16 := ⟨Try.f16, Try.func16, by kernel_rfl, by kernel_rfl⟩
theorem call17 : Callable Try.prog 17 := ⟨Try.f17, Try.func17, by kernel_rfl, by kernel_rfl⟩
theorem call18 : Callable Try.prog 18 := ⟨Try.f18, Try.func18, by kernel_rfl, by kernel_rfl⟩
theorem call19 : Callable Try.prog 19 := ⟨Try.f19, Try.func19, by kernel_rfl, by kernel_rfl⟩
theorem call20 : Callable Try.prog 20 := ⟨Try.f20, Try.func20, by kernel_rfl, by kernel_rfl⟩
theorem call21 : Callable Try.prog 21 := ⟨Try.f21, Try.func21, by kernel_rfl, by kernel_rfl⟩
theorem call22 : Callable Try.prog 22 := ⟨Try.f22, Try.func22, by kernel_rfl, by kernel_rfl⟩
theorem call23 : Callable Try.prog 23 := ⟨Try.f23, Try.func23, by kernel_rfl, by kernel_rfl⟩
theorem call24 : Callable Try.prog 24 := ⟨Try.f24, Try.func24, by kernel_rfl, by kernel_rfl⟩
theorem call25 : Callable Try.prog 25 := ⟨Try.f25, Try.func25, by kernel_rfl, by kernel_rfl⟩
theorem call26 : Callable Try.prog 26 := ⟨Try.f26, Try.func26, by kernel_rfl, by kernel_rfl⟩
theorem call27 : Callable Try.prog 27 := ⟨Try.f27, Try.func27, by kernel_rfl, by kernel_rfl⟩
theorem call28 : Callable Try.prog 28 := ⟨Try.f28, Try.func28, by kernel_rfl, by kernel_rfl⟩
theorem call29 : Callable Try.prog 29 := ⟨Try.f29, Try.func29, by kernel_rfl, by kernel_rfl⟩
theorem call30 : Callable Try.prog 30 := ⟨Try.f30, Try.func30, by kernel_rfl, by kernel_rfl⟩
theorem call31 : Callable Try.prog 31 := ⟨Try.f31, Try.func31, by kernel_rfl, by kernel_rfl⟩
theorem call32 : Callable Try.prog 32 := ⟨Try.f32, Try.func32, by kernel_rfl, by kernel_rfl⟩
theorem call33 : Callable Try.prog 33 := ⟨Try.f33, Try.func33, by kernel_rfl, by kernel_rfl⟩
theorem call34 : Callable Try.prog 34 := ⟨Try.f34, Try.func34, by kernel_rfl, by kernel_rfl⟩
theorem call35 : Callable Try.prog 35 := ⟨Try.f35, Try.func35, by kernel_rfl, by kernel_rfl⟩
theorem call36 : Callable Try.prog 36 := ⟨Try.f36, Try.func36, by kernel_rfl, by kernel_rfl⟩
theorem call37 : Callable Try.prog 37 := ⟨Try.f37, Try.func37, by kernel_rfl, by kernel_rfl⟩
theorem call38 : Callable Try.prog 38 := ⟨Try.f38, Try.func38, by kernel_rfl, by kernel_rfl⟩
theorem call39 : Callable Try.prog 39 := ⟨Try.f39, Try.func39, by kernel_rfl, by kernel_rfl⟩
theorem call40 : Callable Try.prog 40 := ⟨Try.f40, Try.func40, by kernel_rfl, by kernel_rfl⟩
theorem call41 : Callable Try.prog 41 := ⟨Try.f41, Try.func41, by kernel_rfl, by kernel_rfl⟩
theorem call42 : Callable Try.prog 42 := ⟨Try.f42, Try.func42, by kernel_rfl, by kernel_rfl⟩
theorem call43 : Callable Try.prog 43 := ⟨Try.f43, Try.func43, by kernel_rfl, by kernel_rfl⟩
theorem call44 : Callable Try.prog 44 := ⟨Try.f44, Try.func44, by kernel_rfl, by kernel_rfl⟩
theorem call45 : Callable Try.prog 45 := ⟨Try.f45, Try.func45, by kernel_rfl, by kernel_rfl⟩
theorem call46 : Callable Try.prog 46 := ⟨Try.f46, Try.func46, by kernel_rfl, by kernel_rfl⟩
theorem call47 : Callable Try.prog 47 := ⟨Try.f47, Try.func47, by kernel_rfl, by kernel_rfl⟩
theorem call48 : Callable Try.prog 48 := ⟨Try.f48, Try.func48, by kernel_rfl, by kernel_rfl⟩
theorem call49 : Callable Try.prog 49 := ⟨Try.f49, Try.func49, by kernel_rfl, by kernel_rfl⟩
theorem call50 : Callable Try.prog 50 := ⟨Try.f50, Try.func50, by kernel_rfl, by kernel_rfl⟩
theorem call51 : Callable Try.prog 51 := ⟨Try.f51, Try.func51, by kernel_rfl, by kernel_rfl⟩
theorem call52 : Callable Try.prog 52 := ⟨Try.f52, Try.func52, by kernel_rfl, by kernel_rfl⟩
theorem call53 : Callable Try.prog 53 := ⟨Try.f53, Try.func53, by kernel_rfl, by kernel_rfl⟩
end Go.Proofs.YthocicjjighbnaaX
