/- What the program's tables say of its types and functions: closed facts. -/
import Derived.Test.YtdhgbcbnkddfdaaProg
import Derived.Test.YtdhgbcbnkddfdaaXB
import Derived.KernelRfl
namespace Go.Proofs.YtdhgbcbnkddfdaaX
open Go Go.Proofs
set_option maxRecDepth 100000

theorem follows : Try.prog.follows .mixedOrders = true := by kernel_rfl
theorem ti1 : TI Try.prog 1 .nilFunc 1 8 := by unfold TI; kernel_rfl
theorem sc1 : isScalar Try.prog 1 = true := by kernel_rfl
theorem ti2 : TI Try.prog 2 (.int .i64 0) 1 8 := by unfold TI; kernel_rfl
theorem sc2 : isScalar Try.prog 2 = true := by kernel_rfl
theorem ti3 : TI Try.prog 3 (.int .i64 0) 1 8 := by unfold TI; kernel_rfl
theorem sc3 : isScalar Try.prog 3 = true := by kernel_rfl
theorem ti4 : TI Try.prog 4 (.bool false) 1 1 := by unfold TI; kernel_rfl
theorem sc4 : isScalar Try.prog 4 = true := by kernel_rfl
theorem ti5 : TI Try.prog 5 (.int .u8 0) 1 1 := by unfold TI; kernel_rfl
theorem sc5 : isScalar Try.prog 5 = true := by kernel_rfl
theorem ti6 : TI Try.prog 6 (.int .u8 0) 1 1 := by unfold TI; kernel_rfl
theorem sc6 : isScalar Try.prog 6 = true := by kernel_rfl
theorem ti7 : TI Try.prog 7 (.agg #[(.int .i64 0), (.int .i64 0), (.bool false), (.int .u8 0)]) 4 24 := by unfold TI; kernel_rfl
theorem ag7 : isAggT Try.prog 7 = true := by kernel_rfl
theorem bz7 : BZ Try.prog 7 [(.int .i64 0), (.int .i64 0), (.bool false), (.int .u8 0)] [(0, 1), (1, 1), (2, 1), (3, 1)] := by unfold BZ; kernel_rfl
theorem ti8 : TI Try.prog 8 (.agg #[(.int .i64 0), (.int .i64 0), (.bool false), (.int .u8 0)]) 4 24 := by unfold TI; kernel_rfl
theorem ag8 : isAggT Try.prog 8 = true := by kernel_rfl
theorem bz8 : BZ Try.prog 8 [(.int .i64 0), (.int .i64 0), (.bool false), (.int .u8 0)] [(0, 1), (1, 1), (2, 1), (3, 1)] := by unfold BZ; kernel_rfl
theorem ti9 : TI Try.prog 9 (.string .empty) 1 16 := by unfold TI; kernel_rfl
theorem sc9 : isScalar Try.prog 9 = true := by kernel_rfl
theorem ti10 : TI Try.prog 10 (.string .empty) 1 16 := by unfold TI; kernel_rfl
theorem sc10 : isScalar Try.prog 10 = true := by kernel_rfl
theorem ti11 : TI Try.prog 11 (.string .empty) 1 16 := by unfold TI; kernel_rfl
theorem sc11 : isScalar Try.prog 11 = true := by kernel_rfl
theorem ti12 : TI Try.prog 12 (.int .u64 0) 1 8 := by unfold TI; kernel_rfl
theorem sc12 : isScalar Try.prog 12 = true := by kernel_rfl
theorem ti13 : TI Try.prog 13 (.agg #[(.string .empty), (.int .u64 0)]) 2 24 := by unfold TI; kernel_rfl
theorem ag13 : isAggT Try.prog 13 = true := by kernel_rfl
theorem bz13 : BZ Try.prog 13 [(.string .empty), (.int .u64 0)] [(0, 1), (1, 1)] := by unfold BZ; kernel_rfl
theorem ti14 : TI Try.prog 14 (.agg #[(.string .empty), (.int .u64 0)]) 2 24 := by unfold TI; kernel_rfl
theorem ag14 : isAggT Try.prog 14 = true := by kernel_rfl
theorem bz14 : BZ Try.prog 14 [(.string .empty), (.int .u64 0)] [(0, 1), (1, 1)] := by unfold BZ; kernel_rfl
theorem ti15 : TI Try.prog 15 (.pointer none) 1 8 := by unfold TI; kernel_rfl
theorem sc15 : isScalar Try.prog 15 = true := by kernel_rfl
theorem ti16 : TI Try.prog 16 (.pointer none) 1 8 := by unfold TI; kernel_rfl
theorem sc16 : isScalar Try.prog 16 = true := by kernel_rfl
theorem ti17 : TI Try.prog 17 (.pointer none) 1 8 := by unfold TI; kernel_rfl
theorem sc17 : isScalar Try.prog 17 = true := by kernel_rfl
theorem ti18 : TI Try.prog 18 (.agg #[(.pointer none)]) 1 8 := by unfold TI; kernel_rfl
theorem ag18 : isAggT Try.prog 18 = true := by kernel_rfl
theorem bz18 : BZ Try.prog 18 [(.pointer none)] [(0, 1)] := by unfold BZ; kernel_rfl
theorem ti19 : TI Try.prog 19 (.agg #[(.pointer none)]) 1 8 := by unfold TI; kernel_rfl
theorem ag19 : isAggT Try.prog 19 = true := by kernel_rfl
theorem bz19 : BZ Try.prog 19 [(.pointer none)] [(0, 1)] := by unfold BZ; kernel_rfl
theorem ti20 : TI Try.prog 20 .nilIface 1 16 := by unfold TI; kernel_rfl
theorem sc20 : isScalar Try.prog 20 = true := by kernel_rfl
theorem ti21 : TI Try.prog 21 (.int .i32 0) 1 4 := by unfold TI; kernel_rfl
theorem sc21 : isScalar Try.prog 21 = true := by kernel_rfl
theorem ti22 : TI Try.prog 22 .nilFunc 1 8 := by unfold TI; kernel_rfl
theorem sc22 : isScalar Try.prog 22 = true := by kernel_rfl
theorem ti23 : TI Try.prog 23 (.pointer none) 1 8 := by unfold TI; kernel_rfl
theorem sc23 : isScalar Try.prog 23 = true := by kernel_rfl
theorem ti24 : TI Try.prog 24 .nilFunc 1 8 := by unfold TI; kernel_rfl
theorem sc24 : isScalar Try.prog 24 = true := by kernel_rfl
theorem ti25 : TI Try.prog 25 .nilFunc 1 8 := by unfold TI; kernel_rfl
theorem sc25 : isScalar Try.prog 25 = true := by kernel_rfl
theorem ti26 : TI Try.prog 26 (.slice none 0 0) 1 24 := by unfold TI; kernel_rfl
theorem sc26 : isScalar Try.prog 26 = true := by kernel_rfl
theorem ti27 : TI Try.prog 27 (.int .i64 0) 1 8 := by unfold TI; kernel_rfl
theorem sc27 : isScalar Try.prog 27 = true := by kernel_rfl
theorem ti29 : TI Try.prog 29 .nilFunc 1 8 := by unfold TI; kernel_rfl
theorem sc29 : isScalar Try.prog 29 = true := by kernel_rfl
theorem ti30 : TI Try.prog 30 .nilFunc 1 8 := by unfold TI; kernel_rfl
theorem sc30 : isScalar Try.prog 30 = true := by kernel_rfl
theorem ti31 : TI Try.prog 31 .nilFunc 1 8 := by unfold TI; kernel_rfl
theorem sc31 : isScalar Try.prog 31 = true := by kernel_rfl
theorem ti32 : TI Try.prog 32 .nilFunc 1 8 := by unfold TI; kernel_rfl
theorem sc32 : isScalar Try.prog 32 = true := by kernel_rfl
theorem ti33 : TI Try.prog 33 .nilFunc 1 8 := by unfold TI; kernel_rfl
theorem sc33 : isScalar Try.prog 33 = true := by kernel_rfl
theorem ti34 : TI Try.prog 34 .nilFunc 1 8 := by unfold TI; kernel_rfl
theorem sc34 : isScalar Try.prog 34 = true := by kernel_rfl
theorem ti35 : TI Try.prog 35 .nilFunc 1 8 := by unfold TI; kernel_rfl
theorem sc35 : isScalar Try.prog 35 = true := by kernel_rfl
theorem ti36 : TI Try.prog 36 .nilFunc 1 8 := by unfold TI; kernel_rfl
theorem sc36 : isScalar Try.prog 36 = true := by kernel_rfl
theorem ti37 : TI Try.prog 37 .nilFunc 1 8 := by unfold TI; kernel_rfl
theorem sc37 : isScalar Try.prog 37 = true := by kernel_rfl
theorem ti38 : TI Try.prog 38 .nilFunc 1 8 := by unfold TI; kernel_rfl
theorem sc38 : isScalar Try.prog 38 = true := by kernel_rfl
theorem ti39 : TI Try.prog 39 .nilFunc 1 8 := by unfold TI; kernel_rfl
theorem sc39 : isScalar Try.prog 39 = true := by kernel_rfl
theorem ti40 : TI Try.prog 40 .nilFunc 1 8 := by unfold TI; kernel_rfl
theorem sc40 : isScalar Try.prog 40 = true := by kernel_rfl
theorem ti41 : TI Try.prog 41 .nilFunc 1 8 := by unfold TI; kernel_rfl
theorem sc41 : isScalar Try.prog 41 = true := by kernel_rfl
theorem ti42 : TI Try.prog 42 (.slice none 0 0) 1 24 := by unfold TI; kernel_rfl
theorem sc42 : isScalar Try.prog 42 = true := by kernel_rfl
theorem ti43 : TI Try.prog 43 .nilFunc 1 8 := by unfold TI; kernel_rfl
theorem sc43 : isScalar Try.prog 43 = true := by kernel_rfl
theorem ti44 : TI Try.prog 44 (.map none) 1 8 := by unfold TI; kernel_rfl
theorem sc44 : isScalar Try.prog 44 = true := by kernel_rfl
theorem ti45 : TI Try.prog 45 (.slice none 0 0) 1 24 := by unfold TI; kernel_rfl
theorem sc45 : isScalar Try.prog 45 = true := by kernel_rfl
theorem ti46 : TI Try.prog 46 .nilFunc 1 8 := by unfold TI; kernel_rfl
theorem sc46 : isScalar Try.prog 46 = true := by kernel_rfl
theorem ti47 : TI Try.prog 47 (.slice none 0 0) 1 24 := by unfold TI; kernel_rfl
theorem sc47 : isScalar Try.prog 47 = true := by kernel_rfl
theorem ti48 : TI Try.prog 48 (.slice none 0 0) 1 24 := by unfold TI; kernel_rfl
theorem sc48 : isScalar Try.prog 48 = true := by kernel_rfl
theorem ti49 : TI Try.prog 49 (.agg #[(.slice none 0 0), (.slice none 0 0), (.int .i64 0), (.bool false)]) 4 64 := by unfold TI; kernel_rfl
theorem ag49 : isAggT Try.prog 49 = true := by kernel_rfl
theorem bz49 : BZ Try.prog 49 [(.slice none 0 0), (.slice none 0 0), (.int .i64 0), (.bool false)] [(0, 1), (1, 1), (2, 1), (3, 1)] := by unfold BZ; kernel_rfl
theorem ti50 : TI Try.prog 50 (.agg #[(.slice none 0 0), (.slice none 0 0), (.int .i64 0), (.bool false)]) 4 64 := by unfold TI; kernel_rfl
theorem ag50 : isAggT Try.prog 50 = true := by kernel_rfl
theorem bz50 : BZ Try.prog 50 [(.slice none 0 0), (.slice none 0 0), (.int .i64 0), (.bool false)] [(0, 1), (1, 1), (2, 1), (3, 1)] := by unfold BZ; kernel_rfl
theorem ti51 : TI Try.prog 51 .nilFunc 1 8 := by unfold TI; kernel_rfl
theorem sc51 : isScalar Try.prog 51 = true := by kernel_rfl
theorem ti52 : TI Try.prog 52 (.agg #[(.int .u8 0), (.int .u8 0), (.int .u8 0), (.int .u8 0), (.int .u8 0), (.int .u8 0), (.int .u8 0), (.int .u8 0), (.int .u8 0), (.int .u8 0), (.int .u8 0), (.int .u8 0), (.int .u8 0), (.int .u8 0), (.int .u8 0), (.int .u8 0), (.int .u8 0), (.int .u8 0), (.int .u8 0), (.int .u8 0), (.int .u8 0), (.int .u8 0), (.int .u8 0), (.int .u8 0), (.int .u8 0), (.int .u8 0), (.int .u8 0), (.int .u8 0), (.int .u8 0), (.int .u8 0), (.int .u8 0), (.int .u8 0)]) 32 32 := by unfold TI; kernel_rfl
theorem ag52 : isAggT Try.prog 52 = true := by kernel_rfl
theorem ti53 : TI Try.prog 53 (.agg #[(.int .i64 0), (.int .u8 0), (.int .u8 0), (.int .u8 0), (.int .u8 0), (.int .u8 0), (.int .u8 0), (.int .u8 0), (.int .u8 0), (.int .u8 0), (.int .u8 0), (.int .u8 0), (.int .u8 0), (.int .u8 0), (.int .u8 0), (.int .u8 0), (.int .u8 0), (.int .u8 0), (.int .u8 0), (.int .u8 0), (.int .u8 0), (.int .u8 0), (.int .u8 0), (.int .u8 0), (.int .u8 0), (.int .u8 0), (.int .u8 0), (.int .u8 0), (.int .u8 0), (.int .u8 0), (.int .u8 0), (.int .u8 0), (.int .u8 0)]) 33 40 := by unfold TI; kernel_rfl
theorem ag53 : isAggT Try.prog 53 = true := by kernel_rfl
theorem bz53 : BZ Try.prog 53 [(.int .i64 0), (.int .u8 0), (.int .u8 0), (.int .u8 0), (.int .u8 0), (.int .u8 0), (.int .u8 0), (.int .u8 0), (.int .u8 0), (.int .u8 0), (.int .u8 0), (.int .u8 0), (.int .u8 0), (.int .u8 0), (.int .u8 0), (.int .u8 0), (.int .u8 0), (.int .u8 0), (.int .u8 0), (.int .u8 0), (.int .u8 0), (.int .u8 0), (.int .u8 0), (.int .u8 0), (.int .u8 0), (.int .u8 0), (.int .u8 0), (.int .u8 0), (.int .u8 0), (.int .u8 0), (.int .u8 0), (.int .u8 0), (.int .u8 0)] [(0, 1), (1, 32)] := by unfold BZ; kernel_rfl
theorem ti54 : TI Try.prog 54 (.agg #[(.int .i64 0), (.int .u8 0), (.int .u8 0), (.int .u8 0), (.int .u8 0), (.int .u8 0), (.int .u8 0), (.int .u8 0), (.int .u8 0), (.int .u8 0), (.int .u8 0), (.int .u8 0), (.int .u8 0), (.int .u8 0), (.int .u8 0), (.int .u8 0), (.int .u8 0), (.int .u8 0), (.int .u8 0), (.int .u8 0), (.int .u8 0), (.int .u8 0), (.int .u8 0), (.int .u8 0), (.int .u8 0), (.int .u8 0), (.int .u8 0), (.int .u8 0), (.int .u8 0), (.int .u8 0), (.int .u8 0), (.int .u8 0), (.int .u8 0)]) 33 40 := by unfold TI; kernel_rfl
theorem ag54 : isAggT Try.prog 54 = true := by kernel_rfl
theorem bz54 : BZ Try.prog 54 [(.int .i64 0), (.int .u8 0), (.int .u8 0), (.int .u8 0), (.int .u8 0), (.int .u8 0), (.int .u8 0), (.int .u8 0), (.int .u8 0), (.int .u8 0), (.int .u8 0), (.int .u8 0), (.int .u8 0), (.int .u8 0), (.int .u8 0), (.int .u8 0), (.int .u8 0), (.int .u8 0), (.int .u8 0), (.int .u8 0), (.int .u8 0), (.int .u8 0), (.int .u8 0), (.int .u8 0), (.int .u8 0), (.int .u8 0), (.int .u8 0), (.int .u8 0), (.int .u8 0), (.int .u8 0), (.int .u8 0), (.int .u8 0), (.int .u8 0)] [(0, 1), (1, 32)] := by unfold BZ; kernel_rfl
theorem ti55 : TI Try.prog 55 .nilFunc 1 8 := by unfold TI; kernel_rfl
theorem sc55 : isScalar Try.prog 55 = true := by kernel_rfl
theorem ti56 : TI Try.prog 56 .nilFunc 1 8 := by unfold TI; kernel_rfl
theorem sc56 : isScalar Try.prog 56 = true := by kernel_rfl
theorem ti57 : TI Try.prog 57 .nilFunc 1 8 := by unfold TI; kernel_rfl
theorem sc57 : isScalar Try.prog 57 = true := by kernel_rfl
theorem ti58 : TI Try.prog 58 .nilFunc 1 8 := by unfold TI; kernel_rfl
theorem sc58 : isScalar Try.prog 58 = true := by kernel_rfl
theorem ti59 : TI Try.prog 59 (.agg #[(.pointer none), (.pointer none), (.pointer none), (.string .empty)]) 4 40 := by unfold TI; kernel_rfl
theorem ag59 : isAggT Try.prog 59 = true := by kernel_rfl
theorem bz59 : BZ Try.prog 59 [(.pointer none), (.pointer none), (.pointer none), (.string .empty)] [(0, 1), (1, 1), (2, 1), (3, 1)] := by unfold BZ; kernel_rfl
theorem ti60 : TI Try.prog 60 (.agg #[(.pointer none), (.pointer none), (.pointer none), (.string .empty)]) 4 40 := by unfold TI; kernel_rfl
theorem ag60 : isAggT Try.prog 60 = true := by kernel_rfl
theorem bz60 : BZ Try.prog 60 [(.pointer none), (.pointer none), (.pointer none), (.string .empty)] [(0, 1), (1, 1), (2, 1), (3, 1)] := by unfold BZ; kernel_rfl
theorem ti61 : TI Try.prog 61 (.agg #[]) 0 0 := by unfold TI; kernel_rfl
theorem ag61 : isAggT Try.prog 61 = true := by kernel_rfl
theorem ti62 : TI Try.prog 62 (.agg #[]) 0 0 := by unfold TI; kernel_rfl
theorem ag62 : isAggT Try.prog 62 = true := by kernel_rfl
theorem bz62 : BZ Try.prog 62 [] [(0, 0)] := by unfold BZ; kernel_rfl
theorem ti63 : TI Try.prog 63 (.agg #[]) 0 0 := by unfold TI; kernel_rfl
theorem ag63 : isAggT Try.prog 63 = true := by kernel_rfl
theorem bz63 : BZ Try.prog 63 [] [(0, 0)] := by unfold BZ; kernel_rfl
theorem ti64 : TI Try.prog 64 (.int .u32 0) 1 4 := by unfold TI; kernel_rfl
theorem sc64 : isScalar Try.prog 64 = true := by kernel_rfl
theorem ti65 : TI Try.prog 65 (.int .u8 0) 1 1 := by unfold TI; kernel_rfl
theorem sc65 : isScalar Try.prog 65 = true := by kernel_rfl
theorem ti66 : TI Try.prog 66 (.int .u8 0) 1 1 := by unfold TI; kernel_rfl
theorem sc66 : isScalar Try.prog 66 = true := by kernel_rfl
theorem ti67 : TI Try.prog 67 .nilFunc 1 8 := by unfold TI; kernel_rfl
theorem sc67 : isScalar Try.prog 67 = true := by kernel_rfl
theorem ti68 : TI Try.prog 68 (.pointer none) 1 8 := by unfold TI; kernel_rfl
theorem sc68 : isScalar Try.prog 68 = true := by kernel_rfl
theorem ti69 : TI Try.prog 69 (.int .i32 0) 1 4 := by unfold TI; kernel_rfl
theorem sc69 : isScalar Try.prog 69 = true := by kernel_rfl
theorem ti70 : TI Try.prog 70 (.int .i32 0) 1 4 := by unfold TI; kernel_rfl
theorem sc70 : isScalar Try.prog 70 = true := by kernel_rfl
theorem ti71 : TI Try.prog 71 (.agg #[(.int .u64 0), (.int .u64 0), (.int .u32 0), (.int .u8 0), (.int .u8 0), (.int .u8 0), (.int .u8 0), .nilFunc, (.pointer none), (.int .i32 0), (.int .i32 0)]) 11 48 := by unfold TI; kernel_rfl
theorem ag71 : isAggT Try.prog 71 = true := by kernel_rfl
theorem bz71 : BZ Try.prog 71 [(.int .u64 0), (.int .u64 0), (.int .u32 0), (.int .u8 0), (.int .u8 0), (.int .u8 0), (.int .u8 0), .nilFunc, (.pointer none), (.int .i32 0), (.int .i32 0)] [(0, 1), (1, 1), (2, 1), (3, 1), (4, 1), (5, 1), (6, 1), (7, 1), (8, 1), (9, 1), (10, 1)] := by unfold BZ; kernel_rfl
theorem ti72 : TI Try.prog 72 (.agg #[(.int .u64 0), (.int .u64 0), (.int .u32 0), (.int .u8 0), (.int .u8 0), (.int .u8 0), (.int .u8 0), .nilFunc, (.pointer none), (.int .i32 0), (.int .i32 0)]) 11 48 := by unfold TI; kernel_rfl
theorem ag72 : isAggT Try.prog 72 = true := by kernel_rfl
theorem bz72 : BZ Try.prog 72 [(.int .u64 0), (.int .u64 0), (.int .u32 0), (.int .u8 0), (.int .u8 0), (.int .u8 0), (.int .u8 0), .nilFunc, (.pointer none), (.int .i32 0), (.int .i32 0)] [(0, 1), (1, 1), (2, 1), (3, 1), (4, 1), (5, 1), (6, 1), (7, 1), (8, 1), (9, 1), (10, 1)] := by unfold BZ; kernel_rfl
theorem ti73 : TI Try.prog 73 (.pointer none) 1 8 := by unfold TI; kernel_rfl
theorem sc73 : isScalar Try.prog 73 = true := by kernel_rfl
theorem con1 : Try.prog.concrete 1 = true := by kernel_rfl
theorem con2 : Try.prog.concrete 2 = true := by kernel_rfl
theorem con3 : Try.prog.concrete 3 = true := by kernel_rfl
theorem con4 : Try.prog.concrete 4 = true := by kernel_rfl
theorem con5 : Try.prog.concrete 5 = true := by kernel_rfl
theorem con6 : Try.prog.concrete 6 = true := by kernel_rfl
theorem con7 : Try.prog.concrete 7 = true := by kernel_rfl
theorem con8 : Try.prog.concrete 8 = true := by kernel_rfl
theorem con9 : Try.prog.concrete 9 = true := by kernel_rfl
theorem con10 : Try.prog.concrete 10 = true := by kernel_rfl
theorem con11 : Try.prog.concrete 11 = true := by kernel_rfl
theorem con12 : Try.prog.concrete 12 = true := by kernel_rfl
theorem con13 : Try.prog.concrete 13 = true := by kernel_rfl
theorem con14 : Try.prog.concrete 14 = true := by kernel_rfl
theorem con15 : Try.prog.concrete 15 = true := by kernel_rfl
theorem con16 : Try.prog.concrete 16 = true := by kernel_rfl
theorem con17 : Try.prog.concrete 17 = true := by kernel_rfl
theorem con18 : Try.prog.concrete 18 = true := by kernel_rfl
theorem con19 : Try.prog.concrete 19 = true := by kernel_rfl
theorem con21 : Try.prog.concrete 21 = true := by kernel_rfl
theorem con22 : Try.prog.concrete 22 = true := by kernel_rfl
theorem con23 : Try.prog.concrete 23 = true := by kernel_rfl
theorem con24 : Try.prog.concrete 24 = true := by kernel_rfl
theorem con25 : Try.prog.concrete 25 = true := by kernel_rfl
theorem con26 : Try.prog.concrete 26 = true := by kernel_rfl
theorem con27 : Try.prog.concrete 27 = true := by kernel_rfl
theorem con29 : Try.prog.concrete 29 = true := by kernel_rfl
theorem con30 : Try.prog.concrete 30 = true := by kernel_rfl
theorem con31 : Try.prog.concrete 31 = true := by kernel_rfl
theorem con32 : Try.prog.concrete 32 = true := by kernel_rfl
theorem con33 : Try.prog.concrete 33 = true := by kernel_rfl
theorem con34 : Try.prog.concrete 34 = true := by kernel_rfl
theorem con35 : Try.prog.concrete 35 = true := by kernel_rfl
theorem con36 : Try.prog.concrete 36 = true := by kernel_rfl
theorem con37 : Try.prog.concrete 37 = true := by kernel_rfl
theorem con38 : Try.prog.concrete 38 = true := by kernel_rfl
theorem con39 : Try.prog.concrete 39 = true := by kernel_rfl
theorem con40 : Try.prog.concrete 40 = true := by kernel_rfl
theorem con41 : Try.prog.concrete 41 = true := by kernel_rfl
theorem con42 : Try.prog.concrete 42 = true := by kernel_rfl
theorem con43 : Try.prog.concrete 43 = true := by kernel_rfl
theorem con44 : Try.prog.concrete 44 = true := by kernel_rfl
theorem con45 : Try.prog.concrete 45 = true := by kernel_rfl
theorem con46 : Try.prog.concrete 46 = true := by kernel_rfl
theorem con47 : Try.prog.concrete 47 = true := by kernel_rfl
theorem con48 : Try.prog.concrete 48 = true := by kernel_rfl
theorem con49 : Try.prog.concrete 49 = true := by kernel_rfl
theorem con50 : Try.prog.concrete 50 = true := by kernel_rfl
theorem con51 : Try.prog.concrete 51 = true := by kernel_rfl
theorem con52 : Try.prog.concrete 52 = true := by kernel_rfl
theorem con53 : Try.prog.concrete 53 = true := by kernel_rfl
theorem con54 : Try.prog.concrete 54 = true := by kernel_rfl
theorem con55 : Try.prog.concrete 55 = true := by kernel_rfl
theorem con56 : Try.prog.concrete 56 = true := by kernel_rfl
theorem con57 : Try.prog.concrete 57 = true := by kernel_rfl
theorem con58 : Try.prog.concrete 58 = true := by kernel_rfl
theorem con59 : Try.prog.concrete 59 = true := by kernel_rfl
theorem con60 : Try.prog.concrete 60 = true := by kernel_rfl
theorem con61 : Try.prog.concrete 61 = true := by kernel_rfl
theorem con62 : Try.prog.concrete 62 = true := by kernel_rfl
theorem con63 : Try.prog.concrete 63 = true := by kernel_rfl
theorem con64 : Try.prog.concrete 64 = true := by kernel_rfl
theorem con65 : Try.prog.concrete 65 = true := by kernel_rfl
theorem con66 : Try.prog.concrete 66 = true := by kernel_rfl
theorem con67 : Try.prog.concrete 67 = true := by kernel_rfl
theorem con68 : Try.prog.concrete 68 = true := by kernel_rfl
theorem con69 : Try.prog.concrete 69 = true := by kernel_rfl
theorem con70 : Try.prog.concrete 70 = true := by kernel_rfl
theorem con71 : Try.prog.concrete 71 = true := by kernel_rfl
theorem con72 : Try.prog.concrete 72 = true := by kernel_rfl
theorem con73 : Try.prog.concrete 73 = true := by kernel_rfl
theorem call3 : Callable Try.prog 3 := ⟨Try.f3, Try.func3, by kernel_rfl, by kernel_rfl⟩
theorem call4 : Callable Try.prog 4 := ⟨Try.f4, Try.func4, by kernel_rfl, by kernel_rfl⟩
theorem call5 : Callable Try.prog 5 := ⟨Try.f5, Try.func5, by kernel_rfl, by kernel_rfl⟩
theorem call6 : Callable Try.prog 6 := ⟨Try.f6, Try.func6, by kernel_rfl, by kernel_rfl⟩
theorem call7 : Callable Try.prog 7 := ⟨Try.f7, Try.func7, by kernel_rfl, by kernel_rfl⟩
theorem call8 : Callable Try.prog 8 := ⟨Try.f8, Try.func8, by kernel_rfl, by kernel_rfl⟩
theorem call9 : Callable Try.prog 9 := ⟨Try.f9, Try.func9, by kernel_rfl, by kernel_rfl⟩
theorem call10 : Callable Try.prog 10 := ⟨Try.f10, Try.func10, by kernel_rfl, by kernel_rfl⟩
theorem call11 : Callable Try.prog 11 := ⟨Try.f11, Try.func11, by kernel_rfl, by kernel_rfl⟩
theorem call12 : Callable Try.prog 12 := ⟨Try.f12, Try.func12, by kernel_rfl, by kernel_rfl⟩
theorem call13 : Callable Try.prog 13 := ⟨Try.f13, Try.func13, by kernel_rfl, by kernel_rfl⟩
theorem call14 : Callable Try.prog 14 := ⟨Try.f14, Try.func14, by kernel_rfl, by kernel_rfl⟩
theorem call15 : Callable Try.prog 15 := ⟨Try.f15, Try.func15, by kernel_rfl, by kernel_rfl⟩
theorem call16 : Callable Try.prog 16 := ⟨Try.f16, Try.func16, by kernel_rfl, by kernel_rfl⟩
theorem call17 : Callable Try.prog 17 := ⟨Try.f17, Try.func17, by kernel_rfl, by kernel_rfl⟩
theorem call18 : Callable Try.prog 18 := ⟨Try.f18, Try.func18, by kernel_rfl, by kernel_rfl⟩
theorem call19 : Callable Try.prog 19 := ⟨Try.f19, Try.func19, by kernel_rfl, by kernel_rfl⟩
theorem call20 : Callable Try.prog 20 := ⟨Try.f20, Try.func20, by kernel_rfl, by kernel_rfl⟩
theorem call21 : Callable Try.prog 21 := ⟨Try.f21, Try.func21, by kernel_rfl, by kernel_rfl⟩
theorem call22 : Callable Try.prog 22 := ⟨Try.f22, Try.func22, by kernel_rfl, by kernel_rfl⟩
theorem call23 : Callable Try.prog 23 := ⟨Try.f23, Try.func23, by kernel_rfl, by kernel_rfl⟩
theorem call24 : Callable Try.prog 24 := ⟨Try.f24, Try.func24, by kernel_rfl, by kernel_rfl⟩
theorem call25 : Callable Try.prog 25 := ⟨Try.f25, Try.func25, by kernel_rfl, by kernel_rfl⟩
theorem call26 : Callable Try.prog 26 := ⟨Try.f26, Try.func26, by kernel_rfl, by kernel_rfl⟩
theorem call27 : Callable Try.prog 27 := ⟨Try.f27, Try.func27, by kernel_rfl, by kernel_rfl⟩
end Go.Proofs.YtdhgbcbnkddfdaaX
