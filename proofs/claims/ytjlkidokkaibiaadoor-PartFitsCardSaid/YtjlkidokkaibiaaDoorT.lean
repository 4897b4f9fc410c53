/- What the program's tables say of its types and functions: closed facts. -/
import Derived.Test.YtjlkidokkaibiaaDoorProg
import Derived.Test.YtjlkidokkaibiaaDoorXB
import Derived.KernelRfl
namespace Go.Proofs.YtjlkidokkaibiaaDoorX
open Go Go.Proofs
set_option maxRecDepth 100000

theorem follows : Tryd.prog.follows .mixedOrders = true := by kernel_rfl
theorem ti1 : TI Tryd.prog 1 .nilFunc 1 8 := by unfold TI; kernel_rfl
theorem sc1 : isScalar Tryd.prog 1 = true := by kernel_rfl
theorem ti2 : TI Tryd.prog 2 (.int .i64 0) 1 8 := by unfold TI; kernel_rfl
theorem sc2 : isScalar Tryd.prog 2 = true := by kernel_rfl
theorem ti3 : TI Tryd.prog 3 (.int .i64 0) 1 8 := by unfold TI; kernel_rfl
theorem sc3 : isScalar Tryd.prog 3 = true := by kernel_rfl
theorem ti4 : TI Tryd.prog 4 (.bool false) 1 1 := by unfold TI; kernel_rfl
theorem sc4 : isScalar Tryd.prog 4 = true := by kernel_rfl
theorem ti5 : TI Tryd.prog 5 (.int .u8 0) 1 1 := by unfold TI; kernel_rfl
theorem sc5 : isScalar Tryd.prog 5 = true := by kernel_rfl
theorem ti6 : TI Tryd.prog 6 (.int .u8 0) 1 1 := by unfold TI; kernel_rfl
theorem sc6 : isScalar Tryd.prog 6 = true := by kernel_rfl
theorem ti7 : TI Tryd.prog 7 (.agg #[(.int .i64 0), (.int .i64 0), (.bool false), (.int .u8 0)]) 4 24 := by unfold TI; kernel_rfl
theorem ag7 : isAggT Tryd.prog 7 = true := by kernel_rfl
theorem bz7 : BZ Tryd.prog 7 [(.int .i64 0), (.int .i64 0), (.bool false), (.int .u8 0)] [(0, 1), (1, 1), (2, 1), (3, 1)] := by unfold BZ; kernel_rfl
theorem ti8 : TI Tryd.prog 8 (.agg #[(.int .i64 0), (.int .i64 0), (.bool false), (.int .u8 0)]) 4 24 := by unfold TI; kernel_rfl
theorem ag8 : isAggT Tryd.prog 8 = true := by kernel_rfl
theorem bz8 : BZ Tryd.prog 8 [(.int .i64 0), (.int .i64 0), (.bool false), (.int .u8 0)] [(0, 1), (1, 1), (2, 1), (3, 1)] := by unfold BZ; kernel_rfl
theorem ti9 : TI Tryd.prog 9 (.string .empty) 1 16 := by unfold TI; kernel_rfl
theorem sc9 : isScalar Tryd.prog 9 = true := by kernel_rfl
theorem ti10 : TI Tryd.prog 10 (.string .empty) 1 16 := by unfold TI; kernel_rfl
theorem sc10 : isScalar Tryd.prog 10 = true := by kernel_rfl
theorem ti11 : TI Tryd.prog 11 (.string .empty) 1 16 := by unfold TI; kernel_rfl
theorem sc11 : isScalar Tryd.prog 11 = true := by kernel_rfl
theorem ti12 : TI Tryd.prog 12 (.int .u64 0) 1 8 := by unfold TI; kernel_rfl
theorem sc12 : isScalar Tryd.prog 12 = true := by kernel_rfl
theorem ti13 : TI Tryd.prog 13 (.agg #[(.string .empty), (.int .u64 0)]) 2 24 := by unfold TI; kernel_rfl
theorem ag13 : isAggT Tryd.prog 13 = true := by kernel_rfl
theorem bz13 : BZ Tryd.prog 13 [(.string .empty), (.int .u64 0)] [(0, 1), (1, 1)] := by unfold BZ; kernel_rfl
theorem ti14 : TI Tryd.prog 14 (.agg #[(.string .empty), (.int .u64 0)]) 2 24 := by unfold TI; kernel_rfl
theorem ag14 : isAggT Tryd.prog 14 = true := by kernel_rfl
theorem bz14 : BZ Tryd.prog 14 [(.string .empty), (.int .u64 0)] [(0, 1), (1, 1)] := by unfold BZ; kernel_rfl
theorem ti15 : TI Tryd.prog 15 (.pointer none) 1 8 := by unfold TI; kernel_rfl
theorem sc15 : isScalar Tryd.prog 15 = true := by kernel_rfl
theorem ti16 : TI Tryd.prog 16 (.pointer none) 1 8 := by unfold TI; kernel_rfl
theorem sc16 : isScalar Tryd.prog 16 = true := by kernel_rfl
theorem ti17 : TI Tryd.prog 17 (.pointer none) 1 8 := by unfold TI; kernel_rfl
theorem sc17 : isScalar Tryd.prog 17 = true := by kernel_rfl
theorem ti18 : TI Tryd.prog 18 (.agg #[(.pointer none)]) 1 8 := by unfold TI; kernel_rfl
theorem ag18 : isAggT Tryd.prog 18 = true := by kernel_rfl
theorem bz18 : BZ Tryd.prog 18 [(.pointer none)] [(0, 1)] := by unfold BZ; kernel_rfl
theorem ti19 : TI Tryd.prog 19 (.agg #[(.pointer none)]) 1 8 := by unfold TI; kernel_rfl
theorem ag19 : isAggT Tryd.prog 19 = true := by kernel_rfl
theorem bz19 : BZ Tryd.prog 19 [(.pointer none)] [(0, 1)] := by unfold BZ; kernel_rfl
theorem ti20 : TI Tryd.prog 20 .nilIface 1 16 := by unfold TI; kernel_rfl
theorem sc20 : isScalar Tryd.prog 20 = true := by kernel_rfl
theorem ti21 : TI Tryd.prog 21 (.int .i32 0) 1 4 := by unfold TI; kernel_rfl
theorem sc21 : isScalar Tryd.prog 21 = true := by kernel_rfl
theorem ti22 : TI Tryd.prog 22 (.agg #[(.string .empty), (.string .empty)]) 2 32 := by unfold TI; kernel_rfl
theorem ag22 : isAggT Tryd.prog 22 = true := by kernel_rfl
theorem ti23 : TI Tryd.prog 23 (.slice none 0 0) 1 24 := by unfold TI; kernel_rfl
theorem sc23 : isScalar Tryd.prog 23 = true := by kernel_rfl
theorem ti24 : TI Tryd.prog 24 .nilFunc 1 8 := by unfold TI; kernel_rfl
theorem sc24 : isScalar Tryd.prog 24 = true := by kernel_rfl
theorem ti25 : TI Tryd.prog 25 (.agg #[(.string .empty), (.string .empty)]) 2 32 := by unfold TI; kernel_rfl
theorem ag25 : isAggT Tryd.prog 25 = true := by kernel_rfl
theorem bz25 : BZ Tryd.prog 25 [(.string .empty), (.string .empty)] [(0, 1), (1, 1)] := by unfold BZ; kernel_rfl
theorem ti26 : TI Tryd.prog 26 (.agg #[(.string .empty), (.string .empty)]) 2 32 := by unfold TI; kernel_rfl
theorem ag26 : isAggT Tryd.prog 26 = true := by kernel_rfl
theorem bz26 : BZ Tryd.prog 26 [(.string .empty), (.string .empty)] [(0, 1), (1, 1)] := by unfold BZ; kernel_rfl
theorem ti28 : TI Tryd.prog 28 .nilFunc 1 8 := by unfold TI; kernel_rfl
theorem sc28 : isScalar Tryd.prog 28 = true := by kernel_rfl
theorem ti29 : TI Tryd.prog 29 (.slice none 0 0) 1 24 := by unfold TI; kernel_rfl
theorem sc29 : isScalar Tryd.prog 29 = true := by kernel_rfl
theorem ti30 : TI Tryd.prog 30 .nilFunc 1 8 := by unfold TI; kernel_rfl
theorem sc30 : isScalar Tryd.prog 30 = true := by kernel_rfl
theorem ti31 : TI Tryd.prog 31 (.slice none 0 0) 1 24 := by unfold TI; kernel_rfl
theorem sc31 : isScalar Tryd.prog 31 = true := by kernel_rfl
theorem ti32 : TI Tryd.prog 32 .nilFunc 1 8 := by unfold TI; kernel_rfl
theorem sc32 : isScalar Tryd.prog 32 = true := by kernel_rfl
theorem ti33 : TI Tryd.prog 33 .nilFunc 1 8 := by unfold TI; kernel_rfl
theorem sc33 : isScalar Tryd.prog 33 = true := by kernel_rfl
theorem ti34 : TI Tryd.prog 34 .nilFunc 1 8 := by unfold TI; kernel_rfl
theorem sc34 : isScalar Tryd.prog 34 = true := by kernel_rfl
theorem ti35 : TI Tryd.prog 35 .nilFunc 1 8 := by unfold TI; kernel_rfl
theorem sc35 : isScalar Tryd.prog 35 = true := by kernel_rfl
theorem ti36 : TI Tryd.prog 36 .nilFunc 1 8 := by unfold TI; kernel_rfl
theorem sc36 : isScalar Tryd.prog 36 = true := by kernel_rfl
theorem ti37 : TI Tryd.prog 37 .nilFunc 1 8 := by unfold TI; kernel_rfl
theorem sc37 : isScalar Tryd.prog 37 = true := by kernel_rfl
theorem ti38 : TI Tryd.prog 38 (.slice none 0 0) 1 24 := by unfold TI; kernel_rfl
theorem sc38 : isScalar Tryd.prog 38 = true := by kernel_rfl
theorem ti39 : TI Tryd.prog 39 (.agg #[(.int .i64 0), (.slice none 0 0), (.string .empty), (.bool false)]) 4 56 := by unfold TI; kernel_rfl
theorem ag39 : isAggT Tryd.prog 39 = true := by kernel_rfl
theorem bz39 : BZ Tryd.prog 39 [(.int .i64 0), (.slice none 0 0), (.string .empty), (.bool false)] [(0, 1), (1, 1), (2, 1), (3, 1)] := by unfold BZ; kernel_rfl
theorem ti40 : TI Tryd.prog 40 (.agg #[(.int .i64 0), (.slice none 0 0), (.string .empty), (.bool false)]) 4 56 := by unfold TI; kernel_rfl
theorem ag40 : isAggT Tryd.prog 40 = true := by kernel_rfl
theorem bz40 : BZ Tryd.prog 40 [(.int .i64 0), (.slice none 0 0), (.string .empty), (.bool false)] [(0, 1), (1, 1), (2, 1), (3, 1)] := by unfold BZ; kernel_rfl
theorem ti41 : TI Tryd.prog 41 .nilFunc 1 8 := by unfold TI; kernel_rfl
theorem sc41 : isScalar Tryd.prog 41 = true := by kernel_rfl
theorem ti42 : TI Tryd.prog 42 .nilFunc 1 8 := by unfold TI; kernel_rfl
theorem sc42 : isScalar Tryd.prog 42 = true := by kernel_rfl
theorem ti44 : TI Tryd.prog 44 .nilFunc 1 8 := by unfold TI; kernel_rfl
theorem sc44 : isScalar Tryd.prog 44 = true := by kernel_rfl
theorem ti45 : TI Tryd.prog 45 (.agg #[(.int .i64 0), (.slice none 0 0), (.string .empty), (.bool false)]) 4 56 := by unfold TI; kernel_rfl
theorem ag45 : isAggT Tryd.prog 45 = true := by kernel_rfl
theorem bz45 : BZ Tryd.prog 45 [(.int .i64 0), (.slice none 0 0), (.string .empty), (.bool false)] [(0, 1), (1, 1), (2, 1), (3, 1)] := by unfold BZ; kernel_rfl
theorem ti46 : TI Tryd.prog 46 .nilFunc 1 8 := by unfold TI; kernel_rfl
theorem sc46 : isScalar Tryd.prog 46 = true := by kernel_rfl
theorem ti47 : TI Tryd.prog 47 .nilFunc 1 8 := by unfold TI; kernel_rfl
theorem sc47 : isScalar Tryd.prog 47 = true := by kernel_rfl
theorem ti48 : TI Tryd.prog 48 .nilFunc 1 8 := by unfold TI; kernel_rfl
theorem sc48 : isScalar Tryd.prog 48 = true := by kernel_rfl
theorem ti49 : TI Tryd.prog 49 (.slice none 0 0) 1 24 := by unfold TI; kernel_rfl
theorem sc49 : isScalar Tryd.prog 49 = true := by kernel_rfl
theorem ti50 : TI Tryd.prog 50 .nilFunc 1 8 := by unfold TI; kernel_rfl
theorem sc50 : isScalar Tryd.prog 50 = true := by kernel_rfl
theorem ti51 : TI Tryd.prog 51 .nilFunc 1 8 := by unfold TI; kernel_rfl
theorem sc51 : isScalar Tryd.prog 51 = true := by kernel_rfl
theorem ti53 : TI Tryd.prog 53 .nilFunc 1 8 := by unfold TI; kernel_rfl
theorem sc53 : isScalar Tryd.prog 53 = true := by kernel_rfl
theorem ti54 : TI Tryd.prog 54 .nilFunc 1 8 := by unfold TI; kernel_rfl
theorem sc54 : isScalar Tryd.prog 54 = true := by kernel_rfl
theorem ti55 : TI Tryd.prog 55 .nilFunc 1 8 := by unfold TI; kernel_rfl
theorem sc55 : isScalar Tryd.prog 55 = true := by kernel_rfl
theorem ti57 : TI Tryd.prog 57 .nilFunc 1 8 := by unfold TI; kernel_rfl
theorem sc57 : isScalar Tryd.prog 57 = true := by kernel_rfl
theorem ti58 : TI Tryd.prog 58 .nilFunc 1 8 := by unfold TI; kernel_rfl
theorem sc58 : isScalar Tryd.prog 58 = true := by kernel_rfl
theorem ti59 : TI Tryd.prog 59 .nilFunc 1 8 := by unfold TI; kernel_rfl
theorem sc59 : isScalar Tryd.prog 59 = true := by kernel_rfl
theorem ti60 : TI Tryd.prog 60 .nilFunc 1 8 := by unfold TI; kernel_rfl
theorem sc60 : isScalar Tryd.prog 60 = true := by kernel_rfl
theorem ti62 : TI Tryd.prog 62 .nilFunc 1 8 := by unfold TI; kernel_rfl
theorem sc62 : isScalar Tryd.prog 62 = true := by kernel_rfl
theorem ti63 : TI Tryd.prog 63 .nilFunc 1 8 := by unfold TI; kernel_rfl
theorem sc63 : isScalar Tryd.prog 63 = true := by kernel_rfl
theorem ti64 : TI Tryd.prog 64 .nilFunc 1 8 := by unfold TI; kernel_rfl
theorem sc64 : isScalar Tryd.prog 64 = true := by kernel_rfl
theorem ti65 : TI Tryd.prog 65 .nilFunc 1 8 := by unfold TI; kernel_rfl
theorem sc65 : isScalar Tryd.prog 65 = true := by kernel_rfl
theorem ti66 : TI Tryd.prog 66 .nilFunc 1 8 := by unfold TI; kernel_rfl
theorem sc66 : isScalar Tryd.prog 66 = true := by kernel_rfl
theorem ti67 : TI Tryd.prog 67 .nilFunc 1 8 := by unfold TI; kernel_rfl
theorem sc67 : isScalar Tryd.prog 67 = true := by kernel_rfl
theorem ti68 : TI Tryd.prog 68 .nilFunc 1 8 := by unfold TI; kernel_rfl
theorem sc68 : isScalar Tryd.prog 68 = true := by kernel_rfl
theorem ti69 : TI Tryd.prog 69 .nilFunc 1 8 := by unfold TI; kernel_rfl
theorem sc69 : isScalar Tryd.prog 69 = true := by kernel_rfl
theorem ti70 : TI Tryd.prog 70 .nilFunc 1 8 := by unfold TI; kernel_rfl
theorem sc70 : isScalar Tryd.prog 70 = true := by kernel_rfl
theorem ti71 : TI Tryd.prog 71 (.int .u64 0) 1 8 := by unfold TI; kernel_rfl
theorem sc71 : isScalar Tryd.prog 71 = true := by kernel_rfl
theorem ti72 : TI Tryd.prog 72 (.agg #[(.int .u8 0), (.int .u8 0), (.int .u8 0), (.int .u8 0), (.int .u8 0), (.int .u8 0), (.int .u8 0), (.int .u8 0), (.int .u8 0), (.int .u8 0), (.int .u8 0), (.int .u8 0), (.int .u8 0), (.int .u8 0), (.int .u8 0), (.int .u8 0), (.int .u8 0), (.int .u8 0), (.int .u8 0), (.int .u8 0), (.int .u8 0), (.int .u8 0), (.int .u8 0), (.int .u8 0)]) 24 24 := by unfold TI; kernel_rfl
theorem ag72 : isAggT Tryd.prog 72 = true := by kernel_rfl
theorem ti73 : TI Tryd.prog 73 (.int .u64 0) 1 8 := by unfold TI; kernel_rfl
theorem sc73 : isScalar Tryd.prog 73 = true := by kernel_rfl
theorem ti74 : TI Tryd.prog 74 .nilFunc 1 8 := by unfold TI; kernel_rfl
theorem sc74 : isScalar Tryd.prog 74 = true := by kernel_rfl
theorem ti75 : TI Tryd.prog 75 .nilFunc 1 8 := by unfold TI; kernel_rfl
theorem sc75 : isScalar Tryd.prog 75 = true := by kernel_rfl
theorem ti77 : TI Tryd.prog 77 .nilFunc 1 8 := by unfold TI; kernel_rfl
theorem sc77 : isScalar Tryd.prog 77 = true := by kernel_rfl
theorem ti78 : TI Tryd.prog 78 (.int .u32 0) 1 4 := by unfold TI; kernel_rfl
theorem sc78 : isScalar Tryd.prog 78 = true := by kernel_rfl
theorem ti80 : TI Tryd.prog 80 .nilFunc 1 8 := by unfold TI; kernel_rfl
theorem sc80 : isScalar Tryd.prog 80 = true := by kernel_rfl
theorem ti81 : TI Tryd.prog 81 .nilFunc 1 8 := by unfold TI; kernel_rfl
theorem sc81 : isScalar Tryd.prog 81 = true := by kernel_rfl
theorem ti82 : TI Tryd.prog 82 (.agg #[(.int .u64 0), (.int .u64 0), (.int .u64 0), (.int .u64 0), (.int .u64 0), (.int .u64 0), (.int .u64 0), (.int .u64 0), (.int .u64 0), (.int .u64 0), (.int .u64 0), (.int .u64 0), (.int .u64 0), (.int .u64 0), (.int .u64 0), (.int .u64 0), (.int .u64 0), (.int .u64 0), (.int .u64 0), (.int .u64 0)]) 20 160 := by unfold TI; kernel_rfl
theorem ag82 : isAggT Tryd.prog 82 = true := by kernel_rfl
theorem ti83 : TI Tryd.prog 83 (.agg #[(.int .u8 0), (.int .u8 0), (.int .u8 0), (.int .u8 0), (.int .u8 0), (.int .u8 0), (.int .u8 0), (.int .u8 0), (.int .u8 0), (.int .u8 0), (.int .u8 0), (.int .u8 0), (.int .u8 0), (.int .u8 0), (.int .u8 0), (.int .u8 0), (.int .u8 0), (.int .u8 0), (.int .u8 0), (.int .u8 0), (.int .u8 0), (.int .u8 0), (.int .u8 0), (.int .u8 0), (.int .u8 0), (.int .u8 0), (.int .u8 0), (.int .u8 0), (.int .u8 0), (.int .u8 0), (.int .u8 0), (.int .u8 0), (.int .u8 0), (.int .u8 0), (.int .u8 0), (.int .u8 0), (.int .u8 0), (.int .u8 0), (.int .u8 0), (.int .u8 0), (.int .u8 0), (.int .u8 0), (.int .u8 0), (.int .u8 0), (.int .u8 0), (.int .u8 0), (.int .u8 0), (.int .u8 0), (.int .u8 0), (.int .u8 0), (.int .u8 0), (.int .u8 0), (.int .u8 0), (.int .u8 0), (.int .u8 0), (.int .u8 0), (.int .u8 0), (.int .u8 0), (.int .u8 0), (.int .u8 0), (.int .u8 0), (.int .u8 0), (.int .u8 0), (.int .u8 0), (.int .u8 0)]) 65 65 := by unfold TI; kernel_rfl
theorem ag83 : isAggT Tryd.prog 83 = true := by kernel_rfl
theorem ti84 : TI Tryd.prog 84 .nilFunc 1 8 := by unfold TI; kernel_rfl
theorem sc84 : isScalar Tryd.prog 84 = true := by kernel_rfl
theorem ti85 : TI Tryd.prog 85 .nilFunc 1 8 := by unfold TI; kernel_rfl
theorem sc85 : isScalar Tryd.prog 85 = true := by kernel_rfl
theorem ti86 : TI Tryd.prog 86 (.agg #[(.int .u8 0), (.int .u8 0), (.int .u8 0), (.int .u8 0), (.int .u8 0), (.int .u8 0), (.int .u8 0), (.int .u8 0), (.int .u8 0), (.int .u8 0), (.int .u8 0), (.int .u8 0), (.int .u8 0), (.int .u8 0), (.int .u8 0), (.int .u8 0), (.int .u8 0), (.int .u8 0), (.int .u8 0), (.int .u8 0), (.int .u8 0), (.int .u8 0), (.int .u8 0), (.int .u8 0), (.int .u8 0), (.int .u8 0), (.int .u8 0), (.int .u8 0), (.int .u8 0), (.int .u8 0), (.int .u8 0), (.int .u8 0)]) 32 32 := by unfold TI; kernel_rfl
theorem ag86 : isAggT Tryd.prog 86 = true := by kernel_rfl
theorem ti87 : TI Tryd.prog 87 (.agg #[(.int .u8 0), (.int .u8 0), (.int .u8 0), (.int .u8 0), (.int .u8 0), (.int .u8 0), (.int .u8 0), (.int .u8 0), (.int .u8 0), (.int .u8 0), (.int .u8 0), (.int .u8 0), (.int .u8 0), (.int .u8 0), (.int .u8 0), (.int .u8 0), (.int .u8 0), (.int .u8 0), (.int .u8 0), (.int .u8 0), (.int .u8 0), (.int .u8 0), (.int .u8 0), (.int .u8 0), (.int .u8 0), (.int .u8 0), (.int .u8 0), (.int .u8 0), (.int .u8 0), (.int .u8 0), (.int .u8 0), (.int .u8 0), (.int .u8 0), (.int .u8 0), (.int .u8 0), (.int .u8 0), (.int .u8 0), (.int .u8 0), (.int .u8 0), (.int .u8 0), (.int .u8 0), (.int .u8 0), (.int .u8 0), (.int .u8 0), (.int .u8 0), (.int .u8 0), (.int .u8 0), (.int .u8 0), (.int .u8 0), (.int .u8 0), (.int .u8 0), (.int .u8 0), (.int .u8 0), (.int .u8 0), (.int .u8 0), (.int .u8 0), (.int .u8 0), (.int .u8 0), (.int .u8 0), (.int .u8 0), (.int .u8 0), (.int .u8 0), (.int .u8 0), (.int .u8 0)]) 64 64 := by unfold TI; kernel_rfl
theorem ag87 : isAggT Tryd.prog 87 = true := by kernel_rfl
theorem ti88 : TI Tryd.prog 88 .nilFunc 1 8 := by unfold TI; kernel_rfl
theorem sc88 : isScalar Tryd.prog 88 = true := by kernel_rfl
theorem ti89 : TI Tryd.prog 89 (.agg #[(.pointer none), (.pointer none), (.pointer none), (.string .empty)]) 4 40 := by unfold TI; kernel_rfl
theorem ag89 : isAggT Tryd.prog 89 = true := by kernel_rfl
theorem bz89 : BZ Tryd.prog 89 [(.pointer none), (.pointer none), (.pointer none), (.string .empty)] [(0, 1), (1, 1), (2, 1), (3, 1)] := by unfold BZ; kernel_rfl
theorem ti90 : TI Tryd.prog 90 (.agg #[(.pointer none), (.pointer none), (.pointer none), (.string .empty)]) 4 40 := by unfold TI; kernel_rfl
theorem ag90 : isAggT Tryd.prog 90 = true := by kernel_rfl
theorem bz90 : BZ Tryd.prog 90 [(.pointer none), (.pointer none), (.pointer none), (.string .empty)] [(0, 1), (1, 1), (2, 1), (3, 1)] := by unfold BZ; kernel_rfl
theorem ti91 : TI Tryd.prog 91 (.agg #[]) 0 0 := by unfold TI; kernel_rfl
theorem ag91 : isAggT Tryd.prog 91 = true := by kernel_rfl
theorem ti92 : TI Tryd.prog 92 (.agg #[]) 0 0 := by unfold TI; kernel_rfl
theorem ag92 : isAggT Tryd.prog 92 = true := by kernel_rfl
theorem bz92 : BZ Tryd.prog 92 [] [(0, 0)] := by unfold BZ; kernel_rfl
theorem ti93 : TI Tryd.prog 93 (.agg #[]) 0 0 := by unfold TI; kernel_rfl
theorem ag93 : isAggT Tryd.prog 93 = true := by kernel_rfl
theorem bz93 : BZ Tryd.prog 93 [] [(0, 0)] := by unfold BZ; kernel_rfl
theorem ti94 : TI Tryd.prog 94 .nilFunc 1 8 := by unfold TI; kernel_rfl
theorem sc94 : isScalar Tryd.prog 94 = true := by kernel_rfl
theorem ti95 : TI Tryd.prog 95 (.int .u8 0) 1 1 := by unfold TI; kernel_rfl
theorem sc95 : isScalar Tryd.prog 95 = true := by kernel_rfl
theorem ti96 : TI Tryd.prog 96 (.int .u8 0) 1 1 := by unfold TI; kernel_rfl
theorem sc96 : isScalar Tryd.prog 96 = true := by kernel_rfl
theorem ti97 : TI Tryd.prog 97 .nilFunc 1 8 := by unfold TI; kernel_rfl
theorem sc97 : isScalar Tryd.prog 97 = true := by kernel_rfl
theorem ti98 : TI Tryd.prog 98 (.pointer none) 1 8 := by unfold TI; kernel_rfl
theorem sc98 : isScalar Tryd.prog 98 = true := by kernel_rfl
theorem ti99 : TI Tryd.prog 99 (.int .i32 0) 1 4 := by unfold TI; kernel_rfl
theorem sc99 : isScalar Tryd.prog 99 = true := by kernel_rfl
theorem ti100 : TI Tryd.prog 100 (.int .i32 0) 1 4 := by unfold TI; kernel_rfl
theorem sc100 : isScalar Tryd.prog 100 = true := by kernel_rfl
theorem ti101 : TI Tryd.prog 101 (.agg #[(.int .u64 0), (.int .u64 0), (.int .u32 0), (.int .u8 0), (.int .u8 0), (.int .u8 0), (.int .u8 0), .nilFunc, (.pointer none), (.int .i32 0), (.int .i32 0)]) 11 48 := by unfold TI; kernel_rfl
theorem ag101 : isAggT Tryd.prog 101 = true := by kernel_rfl
theorem bz101 : BZ Tryd.prog 101 [(.int .u64 0), (.int .u64 0), (.int .u32 0), (.int .u8 0), (.int .u8 0), (.int .u8 0), (.int .u8 0), .nilFunc, (.pointer none), (.int .i32 0), (.int .i32 0)] [(0, 1), (1, 1), (2, 1), (3, 1), (4, 1), (5, 1), (6, 1), (7, 1), (8, 1), (9, 1), (10, 1)] := by unfold BZ; kernel_rfl
theorem ti102 : TI Tryd.prog 102 (.agg #[(.int .u64 0), (.int .u64 0), (.int .u32 0), (.int .u8 0), (.int .u8 0), (.int .u8 0), (.int .u8 0), .nilFunc, (.pointer none), (.int .i32 0), (.int .i32 0)]) 11 48 := by unfold TI; kernel_rfl
theorem ag102 : isAggT Tryd.prog 102 = true := by kernel_rfl
theorem bz102 : BZ Tryd.prog 102 [(.int .u64 0), (.int .u64 0), (.int .u32 0), (.int .u8 0), (.int .u8 0), (.int .u8 0), (.int .u8 0), .nilFunc, (.pointer none), (.int .i32 0), (.int .i32 0)] [(0, 1), (1, 1), (2, 1), (3, 1), (4, 1), (5, 1), (6, 1), (7, 1), (8, 1), (9, 1), (10, 1)] := by unfold BZ; kernel_rfl
theorem ti103 : TI Tryd.prog 103 (.pointer none) 1 8 := by unfold TI; kernel_rfl
theorem sc103 : isScalar Tryd.prog 103 = true := by kernel_rfl
theorem con1 : Tryd.prog.concrete 1 = true := by kernel_rfl
theorem con2 : Tryd.prog.concrete 2 = true := by kernel_rfl
theorem con3 : Tryd.prog.concrete 3 = true := by kernel_rfl
theorem con4 : Tryd.prog.concrete 4 = true := by kernel_rfl
theorem con5 : Tryd.prog.concrete 5 = true := by kernel_rfl
theorem con6 : Tryd.prog.concrete 6 = true := by kernel_rfl
theorem con7 : Tryd.prog.concrete 7 = true := by kernel_rfl
theorem con8 : Tryd.prog.concrete 8 = true := by kernel_rfl
theorem con9 : Tryd.prog.concrete 9 = true := by kernel_rfl
theorem con10 : Tryd.prog.concrete 10 = true := by kernel_rfl
theorem con11 : Tryd.prog.concrete 11 = true := by kernel_rfl
theorem con12 : Tryd.prog.concrete 12 = true := by kernel_rfl
theorem con13 : Tryd.prog.concrete 13 = true := by kernel_rfl
theorem con14 : Tryd.prog.concrete 14 = true := by kernel_rfl
theorem con15 : Tryd.prog.concrete 15 = true := by kernel_rfl
theorem con16 : Tryd.prog.concrete 16 = true := by kernel_rfl
theorem con17 : Tryd.prog.concrete 17 = true := by kernel_rfl
theorem con18 : Tryd.prog.concrete 18 = true := by kernel_rfl
theorem con19 : Tryd.prog.concrete 19 = true := by kernel_rfl
theorem con21 : Tryd.prog.concrete 21 = true := by kernel_rfl
theorem con22 : Tryd.prog.concrete 22 = true := by kernel_rfl
theorem con23 : Tryd.prog.concrete 23 = true := by kernel_rfl
theorem con24 : Tryd.prog.concrete 24 = true := by kernel_rfl
theorem con25 : Tryd.prog.concrete 25 = true := by kernel_rfl
theorem con26 : Tryd.prog.concrete 26 = true := by kernel_rfl
theorem con28 : Tryd.prog.concrete 28 = true := by kernel_rfl
theorem con29 : Tryd.prog.concrete 29 = true := by kernel_rfl
theorem con30 : Tryd.prog.concrete 30 = true := by kernel_rfl
theorem con31 : Tryd.prog.concrete 31 = true := by kernel_rfl
theorem con32 : Tryd.prog.concrete 32 = true := by kernel_rfl
theorem con33 : Tryd.prog.concrete 33 = true := by kernel_rfl
theorem con34 : Tryd.prog.concrete 34 = true := by kernel_rfl
theorem con35 : Tryd.prog.concrete 35 = true := by kernel_rfl
theorem con36 : Tryd.prog.concrete 36 = true := by kernel_rfl
theorem con37 : Tryd.prog.concrete 37 = true := by kernel_rfl
theorem con38 : Tryd.prog.concrete 38 = true := by kernel_rfl
theorem con39 : Tryd.prog.concrete 39 = true := by kernel_rfl
theorem con40 : Tryd.prog.concrete 40 = true := by kernel_rfl
theorem con41 : Tryd.prog.concrete 41 = true := by kernel_rfl
theorem con42 : Tryd.prog.concrete 42 = true := by kernel_rfl
theorem con44 : Tryd.prog.concrete 44 = true := by kernel_rfl
theorem con45 : Tryd.prog.concrete 45 = true := by kernel_rfl
theorem con46 : Tryd.prog.concrete 46 = true := by kernel_rfl
theorem con47 : Tryd.prog.concrete 47 = true := by kernel_rfl
theorem con48 : Tryd.prog.concrete 48 = true := by kernel_rfl
theorem con49 : Tryd.prog.concrete 49 = true := by kernel_rfl
theorem con50 : Tryd.prog.concrete 50 = true := by kernel_rfl
theorem con51 : Tryd.prog.concrete 51 = true := by kernel_rfl
theorem con53 : Tryd.prog.concrete 53 = true := by kernel_rfl
theorem con54 : Tryd.prog.concrete 54 = true := by kernel_rfl
theorem con55 : Tryd.prog.concrete 55 = true := by kernel_rfl
theorem con57 : Tryd.prog.concrete 57 = true := by kernel_rfl
theorem con58 : Tryd.prog.concrete 58 = true := by kernel_rfl
theorem con59 : Tryd.prog.concrete 59 = true := by kernel_rfl
theorem con60 : Tryd.prog.concrete 60 = true := by kernel_rfl
theorem con62 : Tryd.prog.concrete 62 = true := by kernel_rfl
theorem con63 : Tryd.prog.concrete 63 = true := by kernel_rfl
theorem con64 : Tryd.prog.concrete 64 = true := by kernel_rfl
theorem con65 : Tryd.prog.concrete 65 = true := by kernel_rfl
theorem con66 : Tryd.prog.concrete 66 = true := by kernel_rfl
theorem con67 : Tryd.prog.concrete 67 = true := by kernel_rfl
theorem con68 : Tryd.prog.concrete 68 = true := by kernel_rfl
theorem con69 : Tryd.prog.concrete 69 = true := by kernel_rfl
theorem con70 : Tryd.prog.concrete 70 = true := by kernel_rfl
theorem con71 : Tryd.prog.concrete 71 = true := by kernel_rfl
theorem con72 : Tryd.prog.concrete 72 = true := by kernel_rfl
theorem con73 : Tryd.prog.concrete 73 = true := by kernel_rfl
theorem con74 : Tryd.prog.concrete 74 = true := by kernel_rfl
theorem con75 : Tryd.prog.concrete 75 = true := by kernel_rfl
theorem con77 : Tryd.prog.concrete 77 = true := by kernel_rfl
theorem con78 : Tryd.prog.concrete 78 = true := by kernel_rfl
theorem con80 : Tryd.prog.concrete 80 = true := by kernel_rfl
theorem con81 : Tryd.prog.concrete 81 = true := by kernel_rfl
theorem con82 : Tryd.prog.concrete 82 = true := by kernel_rfl
theorem con83 : Tryd.prog.concrete 83 = true := by kernel_rfl
theorem con84 : Tryd.prog.concrete 84 = true := by kernel_rfl
theorem con85 : Tryd.prog.concrete 85 = true := by kernel_rfl
theorem con86 : Tryd.prog.concrete 86 = true := by kernel_rfl
theorem con87 : Tryd.prog.concrete 87 = true := by kernel_rfl
theorem con88 : Tryd.prog.concrete 88 = true := by kernel_rfl
theorem con89 : Tryd.prog.concrete 89 = true := by kernel_rfl
theorem con90 : Tryd.prog.concrete 90 = true := by kernel_rfl
theorem con91 : Tryd.prog.concrete 91 = true := by kernel_rfl
theorem con92 : Tryd.prog.concrete 92 = true := by kernel_rfl
theorem con93 : Tryd.prog.concrete 93 = true := by kernel_rfl
theorem con94 : Tryd.prog.concrete 94 = true := by kernel_rfl
theorem con95 : Tryd.prog.concrete 95 = true := by kernel_rfl
theorem con96 : Tryd.prog.concrete 96 = true := by kernel_rfl
theorem con97 : Tryd.prog.concrete 97 = true := by kernel_rfl
theorem con98 : Tryd.prog.concrete 98 = true := by kernel_rfl
theorem con99 : Tryd.prog.concrete 99 = true := by kernel_rfl
theorem con100 : Tryd.prog.concrete 100 = true := by kernel_rfl
theorem con101 : Tryd.prog.concrete 101 = true := by kernel_rfl
theorem con102 : Tryd.prog.concrete 102 = true := by kernel_rfl
theorem con103 : Tryd.prog.concrete 103 = true := by kernel_rfl
theorem call3 : Callable Tryd.prog 3 := ⟨Tryd.f3, Tryd.func3, by kernel_rfl, by kernel_rfl⟩
theorem call4 : Callable Tryd.prog 4 := ⟨Tryd.f4, Tryd.func4, by kernel_rfl, by kernel_rfl⟩
theorem call5 : Callable Tryd.prog 5 := ⟨Tryd.f5, Tryd.func5, by kernel_rfl, by kernel_rfl⟩
theorem call6 : Callable Tryd.prog 6 := ⟨Tryd.f6, Tryd.func6, by kernel_rfl, by kernel_rfl⟩
theorem call7 : Callable Tryd.prog 7 := ⟨Tryd.f7, Tryd.func7, by kernel_rfl, by kernel_rfl⟩
theorem call8 : Callable Tryd.prog 8 := ⟨Tryd.f8, Tryd.func8, by kernel_rfl, by kernel_rfl⟩
theorem call9 : Callable Tryd.prog 9 := ⟨Tryd.f9, Tryd.func9, by kernel_rfl, by kernel_rfl⟩
theorem call10 : Callable Tryd.prog 10 := ⟨Tryd.f10, Tryd.func10, by kernel_rfl, by kernel_rfl⟩
theorem call11 : Callable Tryd.prog 11 := ⟨Tryd.f11, Tryd.func11, by kernel_rfl, by kernel_rfl⟩
theorem call12 : Callable Tryd.prog 12 := ⟨Tryd.f12, Tryd.func12, by kernel_rfl, by kernel_rfl⟩
theorem call13 : Callable Tryd.prog 13 := ⟨Tryd.f13, Tryd.func13, by kernel_rfl, by kernel_rfl⟩
theorem call14 : Callable Tryd.prog 14 := ⟨Tryd.f14, Tryd.func14, by kernel_rfl, by kernel_rfl⟩
theorem call15 : Callable Tryd.prog 15 := ⟨Tryd.f15, Tryd.func15, by kernel_rfl, by kernel_rfl⟩
theorem call16 : Callable Tryd.prog 16 := ⟨Tryd.f16, Tryd.func16, by kernel_rfl, by kernel_rfl⟩
theorem call17 : Callable Tryd.prog 17 := ⟨Tryd.f17, Tryd.func17, by kernel_rfl, by kernel_rfl⟩
theorem call18 : Callable Tryd.prog 18 := ⟨Tryd.f18, Tryd.func18, by kernel_rfl, by kernel_rfl⟩
theorem call19 : Callable Tryd.prog 19 := ⟨Tryd.f19, Tryd.func19, by kernel_rfl, by kernel_rfl⟩
theorem call20 : Callable Tryd.prog 20 := ⟨Tryd.f20, Tryd.func20, by kernel_rfl, by kernel_rfl⟩
theorem call21 : Callable Tryd.prog 21 := ⟨Tryd.f21, Tryd.func21, by kernel_rfl, by kernel_rfl⟩
theorem call22 : Callable Tryd.prog 22 := ⟨Tryd.f22, Tryd.func22, by kernel_rfl, by kernel_rfl⟩
theorem call23 : Callable Tryd.prog 23 := ⟨Tryd.f23, Tryd.func23, by kernel_rfl, by kernel_rfl⟩
theorem call24 : Callable Tryd.prog 24 := ⟨Tryd.f24, Tryd.func24, by kernel_rfl, by kernel_rfl⟩
theorem call25 : Callable Tryd.prog 25 := ⟨Tryd.f25, Tryd.func25, by kernel_rfl, by kernel_rfl⟩
theorem call26 : Callable Tryd.prog 26 := ⟨Tryd.f26, Tryd.func26, by kernel_rfl, by kernel_rfl⟩
theorem call27 : Callable Tryd.prog 27 := ⟨Tryd.f27, Tryd.func27, by kernel_rfl, by kernel_rfl⟩
theorem call28 : Callable Tryd.prog 28 := ⟨Tryd.f28, Tryd.func28, by kernel_rfl, by kernel_rfl⟩
theorem call29 : Callable Tryd.prog 29 := ⟨Tryd.f29, Tryd.func29, by kernel_rfl, by kernel_rfl⟩
theorem call30 : Callable Tryd.prog 30 := ⟨Tryd.f30, Tryd.func30, by kernel_rfl, by kernel_rfl⟩
theorem call31 : Callable Tryd.prog 31 := ⟨Tryd.f31, Tryd.func31, by kernel_rfl, by kernel_rfl⟩
theorem call32 : Callable Tryd.prog 32 := ⟨Tryd.f32, Tryd.func32, by kernel_rfl, by kernel_rfl⟩
theorem call33 : Callable Tryd.prog 33 := ⟨Tryd.f33, Tryd.func33, by kernel_rfl, by kernel_rfl⟩
theorem call34 : Callable Tryd.prog 34 := ⟨Tryd.f34, Tryd.func34, by kernel_rfl, by kernel_rfl⟩
theorem call35 : Callable Tryd.prog 35 := ⟨Tryd.f35, Tryd.func35, by kernel_rfl, by kernel_rfl⟩
theorem call36 : Callable Tryd.prog 36 := ⟨Tryd.f36, Tryd.func36, by kernel_rfl, by kernel_rfl⟩
theorem call38 : Callable Tryd.prog 38 := ⟨Tryd.f38, Tryd.func38, by kernel_rfl, by kernel_rfl⟩
theorem call39 : Callable Tryd.prog 39 := ⟨Tryd.f39, Tryd.func39, by kernel_rfl, by kernel_rfl⟩
theorem call40 : Callable Tryd.prog 40 := ⟨Tryd.f40, Tryd.func40, by kernel_rfl, by kernel_rfl⟩
theorem call42 : Callable Tryd.prog 42 := ⟨Tryd.f42, Tryd.func42, by kernel_rfl, by kernel_rfl⟩
theorem call53 : Callable Tryd.prog 53 := ⟨Tryd.f53, Tryd.func53, by kernel_rfl, by kernel_rfl⟩
theorem call56 : Callable Tryd.prog 56 := ⟨Tryd.f56, Tryd.func56, by kernel_rfl, by kernel_rfl⟩
theorem call57 : Callable Tryd.prog 57 := ⟨Tryd.f57, Tryd.func57, by kernel_rfl, by kernel_rfl⟩
theorem call58 : Callable Tryd.prog 58 := ⟨Tryd.f58, Tryd.func58, by kernel_rfl, by kernel_rfl⟩
end Go.Proofs.YtjlkidokkaibiaaDoorX
