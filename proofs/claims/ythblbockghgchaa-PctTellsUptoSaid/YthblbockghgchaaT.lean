/- What the program's tables say of its types and functions: closed facts. -/
import Derived.Test.YthblbockghgchaaProg
import Derived.Test.YthblbockghgchaaXB
import Derived.KernelRfl
namespace Go.Proofs.YthblbockghgchaaX
open Go Go.Proofs
set_option maxRecDepth 100000

theorem follows : Try.prog.follows .mixedOrders = true := by kernel_rfl
theorem ti1 : TI Try.prog 1 .nilFunc 1 8 := by unfold TI; kernel_rfl
theorem sc1 : isScalar Try.prog 1 = true := by kernel_rfl
theorem ti2 : TI Try.prog 2 (.int .i64 0) 1 8 := by unfold TI; kernel_rfl
theorem sc2 : isScalar Try.prog 2 = true := by kernel_rfl
theorem ti3 : TI Try.prog 3 (.int .i64 0) 1 8 := by unfold TI; kernel_rfl
theorem sc3 : isScalar Try.prog 3 = true := by kernel_rfl
theorem ti4 : TI Try.prog 4 (.bool false) 1 1 := by unfold TI; kernel_rfl
theorem sc4 : isScalar Try.prog 4 = true := by kernel_rfl
theorem ti5 : TI Try.prog 5 (.int .u8 0) 1 1 := by unfold TI; kernel_rfl
theorem sc5 : isScalar Try.prog 5 = true := by kernel_rfl
theorem ti6 : TI Try.prog 6 (.int .u8 0) 1 1 := by unfold TI; kernel_rfl
theorem sc6 : isScalar Try.prog 6 = true := by kernel_rfl
theorem ti7 : TI Try.prog 7 (.agg #[(.int .i64 0), (.int .i64 0), (.bool false), (.int .u8 0)]) 4 24 := by unfold TI; kernel_rfl
theorem ag7 : isAggT Try.prog 7 = true := by kernel_rfl
theorem bz7 : BZ Try.prog 7 [(.int .i64 0), (.int .i64 0), (.bool false), (.int .u8 0)] [(0, 1), (1, 1), (2, 1), (3, 1)] := by unfold BZ; kernel_rfl
theorem ti8 : TI Try.prog 8 (.agg #[(.int .i64 0), (.int .i64 0), (.bool false), (.int .u8 0)]) 4 24 := by unfold TI; kernel_rfl
theorem ag8 : isAggT Try.prog 8 = true := by kernel_rfl
theorem bz8 : BZ Try.prog 8 [(.int .i64 0), (.int .i64 0), (.bool false), (.int .u8 0)] [(0, 1), (1, 1), (2, 1), (3, 1)] := by unfold BZ; kernel_rfl
theorem ti9 : TI Try.prog 9 (.string .empty) 1 16 := by unfold TI; kernel_rfl
theorem sc9 : isScalar Try.prog 9 = true := by kernel_rfl
theorem ti10 : TI Try.prog 10 (.string .empty) 1 16 := by unfold TI; kernel_rfl
theorem sc10 : isScalar Try.prog 10 = true := by kernel_rfl
theorem ti11 : TI Try.prog 11 (.string .empty) 1 16 := by unfold TI; kernel_rfl
theorem sc11 : isScalar Try.prog 11 = true := by kernel_rfl
theorem ti12 : TI Try.prog 12 (.int .u64 0) 1 8 := by unfold TI; kernel_rfl
theorem sc12 : isScalar Try.prog 12 = true := by kernel_rfl
theorem ti13 : TI Try.prog 13 (.agg #[(.string .empty), (.int .u64 0)]) 2 24 := by unfold TI; kernel_rfl
theorem ag13 : isAggT Try.prog 13 = true := by kernel_rfl
theorem bz13 : BZ Try.prog 13 [(.string .empty), (.int .u64 0)] [(0, 1), (1, 1)] := by unfold BZ; kernel_rfl
theorem ti14 : TI Try.prog 14 (.agg #[(.string .empty), (.int .u64 0)]) 2 24 := by unfold TI; kernel_rfl
theorem ag14 : isAggT Try.prog 14 = true := by kernel_rfl
theorem bz14 : BZ Try.prog 14 [(.string .empty), (.int .u64 0)] [(0, 1), (1, 1)] := by unfold BZ; kernel_rfl
theorem ti15 : TI Try.prog 15 (.pointer none) 1 8 := by unfold TI; kernel_rfl
theorem sc15 : isScalar Try.prog 15 = true := by kernel_rfl
theorem ti16 : TI Try.prog 16 (.pointer none) 1 8 := by unfold TI; kernel_rfl
theorem sc16 : isScalar Try.prog 16 = true := by kernel_rfl
theorem ti17 : TI Try.prog 17 (.pointer none) 1 8 := by unfold TI; kernel_rfl
theorem sc17 : isScalar Try.prog 17 = true := by kernel_rfl
theorem ti18 : TI Try.prog 18 (.agg #[(.pointer none)]) 1 8 := by unfold TI; kernel_rfl
theorem ag18 : isAggT Try.prog 18 = true := by kernel_rfl
theorem bz18 : BZ Try.prog 18 [(.pointer none)] [(0, 1)] := by unfold BZ; kernel_rfl
theorem ti19 : TI Try.prog 19 (.agg #[(.pointer none)]) 1 8 := by unfold TI; kernel_rfl
theorem ag19 : isAggT Try.prog 19 = true := by kernel_rfl
theorem bz19 : BZ Try.prog 19 [(.pointer none)] [(0, 1)] := by unfold BZ; kernel_rfl
theorem ti20 : TI Try.prog 20 .nilIface 1 16 := by unfold TI; kernel_rfl
theorem sc20 : isScalar Try.prog 20 = true := by kernel_rfl
theorem ti21 : TI Try.prog 21 (.int .i32 0) 1 4 := by unfold TI; kernel_rfl
theorem sc21 : isScalar Try.prog 21 = true := by kernel_rfl
theorem ti22 : TI Try.prog 22 .nilFunc 1 8 := by unfold TI; kernel_rfl
theorem sc22 : isScalar Try.prog 22 = true := by kernel_rfl
theorem ti23 : TI Try.prog 23 .nilFunc 1 8 := by unfold TI; kernel_rfl
theorem sc23 : isScalar Try.prog 23 = true := by kernel_rfl
theorem ti24 : TI Try.prog 24 .nilFunc 1 8 := by unfold TI; kernel_rfl
theorem sc24 : isScalar Try.prog 24 = true := by kernel_rfl
theorem ti25 : TI Try.prog 25 (.slice none 0 0) 1 24 := by unfold TI; kernel_rfl
theorem sc25 : isScalar Try.prog 25 = true := by kernel_rfl
theorem ti26 : TI Try.prog 26 (.int .u64 0) 1 8 := by unfold TI; kernel_rfl
theorem sc26 : isScalar Try.prog 26 = true := by kernel_rfl
theorem ti28 : TI Try.prog 28 .nilFunc 1 8 := by unfold TI; kernel_rfl
theorem sc28 : isScalar Try.prog 28 = true := by kernel_rfl
theorem ti29 : TI Try.prog 29 .nilFunc 1 8 := by unfold TI; kernel_rfl
theorem sc29 : isScalar Try.prog 29 = true := by kernel_rfl
theorem ti30 : TI Try.prog 30 (.agg #[(.string .empty), (.string .empty)]) 2 32 := by unfold TI; kernel_rfl
theorem ag30 : isAggT Try.prog 30 = true := by kernel_rfl
theorem ti31 : TI Try.prog 31 (.slice none 0 0) 1 24 := by unfold TI; kernel_rfl
theorem sc31 : isScalar Try.prog 31 = true := by kernel_rfl
theorem ti32 : TI Try.prog 32 (.slice none 0 0) 1 24 := by unfold TI; kernel_rfl
theorem sc32 : isScalar Try.prog 32 = true := by kernel_rfl
theorem ti33 : TI Try.prog 33 .nilFunc 1 8 := by unfold TI; kernel_rfl
theorem sc33 : isScalar Try.prog 33 = true := by kernel_rfl
theorem ti34 : TI Try.prog 34 .nilFunc 1 8 := by unfold TI; kernel_rfl
theorem sc34 : isScalar Try.prog 34 = true := by kernel_rfl
theorem ti35 : TI Try.prog 35 (.slice none 0 0) 1 24 := by unfold TI; kernel_rfl
theorem sc35 : isScalar Try.prog 35 = true := by kernel_rfl
theorem ti36 : TI Try.prog 36 .nilFunc 1 8 := by unfold TI; kernel_rfl
theorem sc36 : isScalar Try.prog 36 = true := by kernel_rfl
theorem ti37 : TI Try.prog 37 .nilFunc 1 8 := by unfold TI; kernel_rfl
theorem sc37 : isScalar Try.prog 37 = true := by kernel_rfl
theorem ti38 : TI Try.prog 38 .nilFunc 1 8 := by unfold TI; kernel_rfl
theorem sc38 : isScalar Try.prog 38 = true := by kernel_rfl
theorem ti39 : TI Try.prog 39 .nilFunc 1 8 := by unfold TI; kernel_rfl
theorem sc39 : isScalar Try.prog 39 = true := by kernel_rfl
theorem ti40 : TI Try.prog 40 .nilFunc 1 8 := by unfold TI; kernel_rfl
theorem sc40 : isScalar Try.prog 40 = true := by kernel_rfl
theorem ti41 : TI Try.prog 41 .nilFunc 1 8 := by unfold TI; kernel_rfl
theorem sc41 : isScalar Try.prog 41 = true := by kernel_rfl
theorem ti42 : TI Try.prog 42 .nilFunc 1 8 := by unfold TI; kernel_rfl
theorem sc42 : isScalar Try.prog 42 = true := by kernel_rfl
theorem ti43 : TI Try.prog 43 .nilFunc 1 8 := by unfold TI; kernel_rfl
theorem sc43 : isScalar Try.prog 43 = true := by kernel_rfl
theorem ti44 : TI Try.prog 44 .nilFunc 1 8 := by unfold TI; kernel_rfl
theorem sc44 : isScalar Try.prog 44 = true := by kernel_rfl
theorem ti45 : TI Try.prog 45 (.agg #[(.pointer none), (.pointer none), (.pointer none), (.string .empty)]) 4 40 := by unfold TI; kernel_rfl
theorem ag45 : isAggT Try.prog 45 = true := by kernel_rfl
theorem bz45 : BZ Try.prog 45 [(.pointer none), (.pointer none), (.pointer none), (.string .empty)] [(0, 1), (1, 1), (2, 1), (3, 1)] := by unfold BZ; kernel_rfl
theorem ti46 : TI Try.prog 46 (.agg #[(.pointer none), (.pointer none), (.pointer none), (.string .empty)]) 4 40 := by unfold TI; kernel_rfl
theorem ag46 : isAggT Try.prog 46 = true := by kernel_rfl
theorem bz46 : BZ Try.prog 46 [(.pointer none), (.pointer none), (.pointer none), (.string .empty)] [(0, 1), (1, 1), (2, 1), (3, 1)] := by unfold BZ; kernel_rfl
theorem ti47 : TI Try.prog 47 (.agg #[]) 0 0 := by unfold TI; kernel_rfl
theorem ag47 : isAggT Try.prog 47 = true := by kernel_rfl
theorem ti48 : TI Try.prog 48 (.agg #[]) 0 0 := by unfold TI; kernel_rfl
theorem ag48 : isAggT Try.prog 48 = true := by kernel_rfl
theorem bz48 : BZ Try.prog 48 [] [(0, 0)] := by unfold BZ; kernel_rfl
theorem ti49 : TI Try.prog 49 (.agg #[]) 0 0 := by unfold TI; kernel_rfl
theorem ag49 : isAggT Try.prog 49 = true := by kernel_rfl
theorem bz49 : BZ Try.prog 49 [] [(0, 0)] := by unfold BZ; kernel_rfl
theorem ti50 : TI Try.prog 50 .nilFunc 1 8 := by unfold TI; kernel_rfl
theorem sc50 : isScalar Try.prog 50 = true := by kernel_rfl
theorem ti51 : TI Try.prog 51 (.int .u32 0) 1 4 := by unfold TI; kernel_rfl
theorem sc51 : isScalar Try.prog 51 = true := by kernel_rfl
theorem ti52 : TI Try.prog 52 (.int .u8 0) 1 1 := by unfold TI; kernel_rfl
theorem sc52 : isScalar Try.prog 52 = true := by kernel_rfl
theorem ti53 : TI Try.prog 53 (.int .u8 0) 1 1 := by unfold TI; kernel_rfl
theorem sc53 : isScalar Try.prog 53 = true := by kernel_rfl
theorem ti54 : TI Try.prog 54 .nilFunc 1 8 := by unfold TI; kernel_rfl
theorem sc54 : isScalar Try.prog 54 = true := by kernel_rfl
theorem ti55 : TI Try.prog 55 (.pointer none) 1 8 := by unfold TI; kernel_rfl
theorem sc55 : isScalar Try.prog 55 = true := by kernel_rfl
theorem ti56 : TI Try.prog 56 (.int .i32 0) 1 4 := by unfold TI; kernel_rfl
theorem sc56 : isScalar Try.prog 56 = true := by kernel_rfl
theorem ti57 : TI Try.prog 57 (.int .i32 0) 1 4 := by unfold TI; kernel_rfl
theorem sc57 : isScalar Try.prog 57 = true := by kernel_rfl
theorem ti58 : TI Try.prog 58 (.agg #[(.int .u64 0), (.int .u64 0), (.int .u32 0), (.int .u8 0), (.int .u8 0), (.int .u8 0), (.int .u8 0), .nilFunc, (.pointer none), (.int .i32 0), (.int .i32 0)]) 11 48 := by unfold TI; kernel_rfl
theorem ag58 : isAggT Try.prog 58 = true := by kernel_rfl
theorem bz58 : BZ Try.prog 58 [(.int .u64 0), (.int .u64 0), (.int .u32 0), (.int .u8 0), (.int .u8 0), (.int .u8 0), (.int .u8 0), .nilFunc, (.pointer none), (.int .i32 0), (.int .i32 0)] [(0, 1), (1, 1), (2, 1), (3, 1), (4, 1), (5, 1), (6, 1), (7, 1), (8, 1), (9, 1), (10, 1)] := by unfold BZ; kernel_rfl
theorem ti59 : TI Try.prog 59 (.agg #[(.int .u64 0), (.int .u64 0), (.int .u32 0), (.int .u8 0), (.int .u8 0), (.int .u8 0), (.int .u8 0), .nilFunc, (.pointer none), (.int .i32 0), (.int .i32 0)]) 11 48 := by unfold TI; kernel_rfl
theorem ag59 : isAggT Try.prog 59 = true := by kernel_rfl
theorem bz59 : BZ Try.prog 59 [(.int .u64 0), (.int .u64 0), (.int .u32 0), (.int .u8 0), (.int .u8 0), (.int .u8 0), (.int .u8 0), .nilFunc, (.pointer none), (.int .i32 0), (.int .i32 0)] [(0, 1), (1, 1), (2, 1), (3, 1), (4, 1), (5, 1), (6, 1), (7, 1), (8, 1), (9, 1), (10, 1)] := by unfold BZ; kernel_rfl
theorem ti60 : TI Try.prog 60 (.pointer none) 1 8 := by unfold TI; kernel_rfl
theorem sc60 : isScalar Try.prog 60 = true := by kernel_rfl
theorem con1 : Try.prog.concrete 1 = true := by kernel_rfl
theorem con2 : Try.prog.concrete 2 = true := by kernel_rfl
theorem con3 : Try.prog.concrete 3 = true := by kernel_rfl
theorem con4 : Try.prog.concrete 4 = true := by kernel_rfl
theorem con5 : Try.prog.concrete 5 = true := by kernel_rfl
theorem con6 : Try.prog.concrete 6 = true := by kernel_rfl
theorem con7 : Try.prog.concrete 7 = true := by kernel_rfl
theorem con8 : Try.prog.concrete 8 = true := by kernel_rfl
theorem con9 : Try.prog.concrete 9 = true := by kernel_rfl
theorem con10 : Try.prog.concrete 10 = true := by kernel_rfl
theorem con11 : Try.prog.concrete 11 = true := by kernel_rfl
theorem con12 : Try.prog.concrete 12 = true := by kernel_rfl
theorem con13 : Try.prog.concrete 13 = true := by kernel_rfl
theorem con14 : Try.prog.concrete 14 = true := by kernel_rfl
theorem con15 : Try.prog.concrete 15 = true := by kernel_rfl
theorem con16 : Try.prog.concrete 16 = true := by kernel_rfl
theorem con17 : Try.prog.concrete 17 = true := by kernel_rfl
theorem con18 : Try.prog.concrete 18 = true := by kernel_rfl
theorem con19 : Try.prog.concrete 19 = true := by kernel_rfl
theorem con21 : Try.prog.concrete 21 = true := by kernel_rfl
theorem con22 : Try.prog.concrete 22 = true := by kernel_rfl
theorem con23 : Try.prog.concrete 23 = true := by kernel_rfl
theorem con24 : Try.prog.concrete 24 = true := by kernel_rfl
theorem con25 : Try.prog.concrete 25 = true := by kernel_rfl
theorem con26 : Try.prog.concrete 26 = true := by kernel_rfl
theorem con28 : Try.prog.concrete 28 = true := by kernel_rfl
theorem con29 : Try.prog.concrete 29 = true := by kernel_rfl
theorem con30 : Try.prog.concrete 30 = true := by kernel_rfl
theorem con31 : Try.prog.concrete 31 = true := by kernel_rfl
theorem con32 : Try.prog.concrete 32 = true := by kernel_rfl
theorem con33 : Try.prog.concrete 33 = true := by kernel_rfl
theorem con34 : Try.prog.concrete 34 = true := by kernel_rfl
theorem con35 : Try.prog.concrete 35 = true := by kernel_rfl
theorem con36 : Try.prog.concrete 36 = true := by kernel_rfl
theorem con37 : Try.prog.concrete 37 = true := by kernel_rfl
theorem con38 : Try.prog.concrete 38 = true := by kernel_rfl
theorem con39 : Try.prog.concrete 39 = true := by kernel_rfl
theorem con40 : Try.prog.concrete 40 = true := by kernel_rfl
theorem con41 : Try.prog.concrete 41 = true := by kernel_rfl
theorem con42 : Try.prog.concrete 42 = true := by kernel_rfl
theorem con43 : Try.prog.concrete 43 = true := by kernel_rfl
theorem con44 : Try.prog.concrete 44 = true := by kernel_rfl
theorem con45 : Try.prog.concrete 45 = true := by kernel_rfl
theorem con46 : Try.prog.concrete 46 = true := by kernel_rfl
theorem con47 : Try.prog.concrete 47 = true := by kernel_rfl
theorem con48 : Try.prog.concrete 48 = true := by kernel_rfl
theorem con49 : Try.prog.concrete 49 = true := by kernel_rfl
theorem con50 : Try.prog.concrete 50 = true := by kernel_rfl
theorem con51 : Try.prog.concrete 51 = true := by kernel_rfl
theorem con52 : Try.prog.concrete 52 = true := by kernel_rfl
theorem con53 : Try.prog.concrete 53 = true := by kernel_rfl
theorem con54 : Try.prog.concrete 54 = true := by kernel_rfl
theorem con55 : Try.prog.concrete 55 = true := by kernel_rfl
theorem con56 : Try.prog.concrete 56 = true := by kernel_rfl
theorem con57 : Try.prog.concrete 57 = true := by kernel_rfl
theorem con58 : Try.prog.concrete 58 = true := by kernel_rfl
theorem con59 : Try.prog.concrete 59 = true := by kernel_rfl
theorem con60 : Try.prog.concrete 60 = true := by kernel_rfl
theorem call3 : Callable Try.prog 3 := ⟨Try.f3, Try.func3, by kernel_rfl, by kernel_rfl⟩
theorem call4 : Callable Try.prog 4 := ⟨Try.f4, Try.func4, by kernel_rfl, by kernel_rfl⟩
theorem call5 : Callable Try.prog 5 := ⟨Try.f5, Try.func5, by kernel_rfl, by kernel_rfl⟩
theorem call6 : Callable Try.prog 6 := ⟨Try.f6, Try.func6, by kernel_rfl, by kernel_rfl⟩
theorem call7 : Callable Try.prog 7 := ⟨Try.f7, Try.func7, by kernel_rfl, by kernel_rfl⟩
theorem call8 : Callable Try.prog 8 := ⟨Try.f8, Try.func8, by kernel_rfl, by kernel_rfl⟩
theorem call9 : Callable Try.prog 9 := ⟨Try.f9, Try.func9, by kernel_rfl, by kernel_rfl⟩
theorem call10 : Callable Try.prog 10 := ⟨Try.f10, Try.func10, by kernel_rfl, by kernel_rfl⟩
theorem call11 : Callable Try.prog 11 := ⟨Try.f11, Try.func11, by kernel_rfl, by kernel_rfl⟩
theorem call12 : Callable Try.prog 12 := ⟨Try.f12, Try.func12, by kernel_rfl, by kernel_rfl⟩
theorem call13 : Callable Try.prog 13 := ⟨Try.f13, Try.func13, by kernel_rfl, by kernel_rfl⟩
theorem call14 : Callable Try.prog 14 := ⟨Try.f14, Try.func14, by kernel_rfl, by kernel_rfl⟩
theorem call15 : Callable Try.prog 15 := ⟨Try.f15, Try.func15, by kernel_rfl, by kernel_rfl⟩
theorem call16 : Callable Try.prog 16 := ⟨Try.f16, Try.func16, by kernel_rfl, by kernel_rfl⟩
theorem call17 : Callable Try.prog 17 := ⟨Try.f17, Try.func17, by kernel_rfl, by kernel_rfl⟩
theorem call18 : Callable Try.prog 18 := ⟨Try.f18, Try.func18, by kernel_rfl, by kernel_rfl⟩
theorem call19 : Callable Try.prog 19 := ⟨Try.f19, Try.func19, by kernel_rfl, by kernel_rfl⟩
theorem call20 : Callable Try.prog 20 := ⟨Try.f20, Try.func20, by kernel_rfl, by kernel_rfl⟩
theorem call21 : Callable Try.prog 21 := ⟨Try.f21, Try.func21, by kernel_rfl, by kernel_rfl⟩
theorem call22 : Callable Try.prog 22 := ⟨Try.f22, Try.func22, by kernel_rfl, by kernel_rfl⟩
theorem call23 : Callable Try.prog 23 := ⟨Try.f23, Try.func23, by kernel_rfl, by kernel_rfl⟩
theorem call26 : Callable Try.prog 26 := ⟨Try.f26, Try.func26, by kernel_rfl, by kernel_rfl⟩
end Go.Proofs.YthblbockghgchaaX
