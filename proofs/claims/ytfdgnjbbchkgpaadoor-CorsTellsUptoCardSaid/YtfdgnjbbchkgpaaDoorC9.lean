/- Answers by hand: who may read them, who may ask further. -/
import Derived.Test.YtfdgnjbbchkgpaaDoorT
import Derived.Test.YtfdgnjbbchkgpaaDoorC8
namespace Go.Proofs.YtfdgnjbbchkgpaaDoorX
set_option linter.unusedVariables false
set_option linter.unusedSimpArgs false
open Go Go.RowKit Go.Proofs

abbrev Form := Int × List HL × Bool × Bool × Bool
def formsT : List Form := [(200, [], false, false, false), (200, [(allowOL, [42])], true, false, false), (200, [([65, 108, 108, 111, 119, 45, 79, 114, 105, 103, 105, 110], ohL)], true, false, false), (200, [(allowOL, ohL), (acredL, trueL)], true, true, false), (200, [(allowOL, ohL), (acredL, [84, 114, 117, 101])], true, false, false), (200, [(allowOL, [104, 116, 116, 112, 115, 58, 47, 47, 97, 46, 98, 47])], false, false, false), (200, [(allowOL, [110, 117, 108, 108]), (allowOL, [42])], false, false, false), (204, [(allowOL, [42]), (methL, [120, 44, 32, 80, 85, 84]), (ahdsL, [88, 45, 79, 78, 69])], true, false, true), (299, [(allowOL, ohL), (methL, [42]), (ahdsL, [44, 42])], true, false, true), (200, [(allowOL, ohL), (methL, [112, 117, 116])], true, false, false), (300, [(allowOL, [42]), (methL, [42]), (ahdsL, [42])], true, false, false)]
def accX : HL := ([97, 99, 99, 101, 112, 116], [120])
def cell5 (v : Value) (f : Form) : List Value := [.int .i64 f.1, v, .bool f.2.2.1, .bool f.2.2.2.1, .bool f.2.2.2.2]
def tabC (vs : List Value) (fs : List Form) : List Value := (vs.zip fs).flatMap fun p => cell5 p.1 p.2
def Vals (I : Imm) (vs : List Value) (fs : List Form) : Prop := vs.length = fs.length ∧ ∀ (k : Nat) (v : Value) (f : Form), vs[k]? = some v → fs[k]? = some f → RdH I v (f.2.1.map hrowC)
theorem Vals.nil {I : Imm} : Vals I [] [] := ⟨rfl, fun k v f h => by simp at h⟩
theorem Vals.cons {I : Imm} {v : Value} {vs : List Value} {fs : List Form} (f : Form) (h : RdH I v (f.2.1.map hrowC)) (t : Vals I vs fs) : Vals I (v :: vs) (f :: fs) := by
  refine ⟨by simp [t.1], fun k v' f' h1 h2 => ?_⟩
  cases k with
  | zero => simp at h1 h2; subst h1; subst h2; exact h
  | succ k => exact t.2 k v' f' (by simpa using h1) (by simpa using h2)
theorem Vals.mono {I I' : Imm} {vs : List Value} {fs : List Form} (h : Vals I vs fs) (hI : I.le I') : Vals I' vs fs := ⟨h.1, fun k v f h1 h2 => RdL.mono hI (h.2 k v f h1 h2)⟩
theorem tab_at {vs : List Value} {fs : List Form} {k : Nat} {v : Value} {f : Form} (h1 : vs[k]? = some v) (h2 : fs[k]? = some f) : ∀ (j : Nat) (u : Value), (cell5 v f)[j]? = some u → (tabC vs fs)[(k : Int).toNat * 5 + j]? = some u := by
  intro j u hj
  have hj5 : j < 5 := (List.getElem?_eq_some_iff.1 hj).1
  have hl5 : ∀ p : Value × Form, (cell5 p.1 p.2).length = 5 := fun p => rfl
  unfold tabC
  rw [Int.toNat_natCast, getElem?_flat hl5 (vs.zip fs) k j hj5, (List.getElem?_zip_eq_some (z := (v, f))).2 ⟨h1, h2⟩]
  exact hj
def formB (f : Form) : Bool := (CheckB f.2.1 ohL false == f.2.2.1) && (CheckB f.2.1 ohL true == f.2.2.2.1) && (PreB f.1 f.2.1 ohL false [80, 85, 84] [oneH] == f.2.2.2.2) && decide (f.2.1.length ≤ 3) && f.2.1.all fun r => decide (r.1.length ≤ 100) && decide (r.2.length ≤ 100)
set_option maxRecDepth 100000 in
theorem forms_all : (formsT.all formB) = true := by decide +kernel
theorem form_ok {code : Int} {hl : List HL} {a b c : Bool} (h : (code, hl, a, b, c) ∈ formsT) : CheckB hl ohL false = a ∧ CheckB hl ohL true = b ∧ PreB code hl ohL false [80, 85, 84] [oneH] = c ∧ HB (hl.map hrowC) := by
  have := List.all_eq_true.1 forms_all _ h
  unfold formB at this
  simp only [Bool.and_eq_true, beq_iff_eq, decide_eq_true_eq, List.all_eq_true] at this
  obtain ⟨⟨⟨⟨h1, h2⟩, h3⟩, h4⟩, h5⟩ := this
  exact ⟨h1, h2, h3, HB.ofC (by omega) fun r hr => by have := h5 r hr; omega⟩
def comL : List (List UInt8) := [getL, headL, postL]
theorem plainE {m : List UInt8} {ll : List HL} {b : Bool} (h : (commonL m && decide (unsafeB ll = [])) = b) : plainL (strOf m).toList (ll.map hrowC) = b := by rw [strOf_toList, plain_map, h]
theorem com_all : ∀ j, j < 3 → (commonL (comL.getD j []) && decide (unsafeB [accX] = [])) = true ∧ (commonL (comL.getD j []) && decide (unsafeB [oneH] = [])) = false := by decide +kernel
theorem com_del : (commonL [68, 69, 76, 69, 84, 69] && decide (unsafeB [] = [])) = false := by decide +kernel
theorem com_get : (commonL [103, 101, 116] && decide (unsafeB [] = [])) = false := by decide +kernel
def lsA : List UInt8 := [32, 65, 32, 44, 98, 44, 44, 32, 44, 67, 9]
theorem parts_A : partsL (ByteArray.mk lsA.toArray).toList = [[97], [98], [99]] := by rw [litL]; decide +kernel
theorem parts_0 : partsL (ByteArray.mk #[]).toList = [] := by rw [emptyL]; decide +kernel
set_option maxRecDepth 100000 in
set_option maxHeartbeats 8000000 in
theorem cforms_spec {w0 w : World} {I : Imm} {L : Own} (hst : St w0 w I L) (hM : MaxK I) (n : Int) (hn : i64ok n) :
    Calls Tryd.prog 4 #[.int .i64 n] w fun e w' => e = .returned (.bool true) ∧ ∃ I', I.le I' ∧ St w0 w' I' L := by
  refine enter Tryd.func4 rfl (N := 129) rfl rfl ?_
  simp only [List.zipIdx_cons, List.zipIdx_nil, List.map_cons, List.map_nil, Nat.zero_add, Nat.reduceAdd]
  have hle := Imm.le.refl I
  refine CW.seq ?_
  -- region 0
  refine CW.region ?_
  refine RW.op1 rfl (runs_assign rfl) ?_
  refine RW.done ?_
  refine AQ.next ?_
  refine CW.seq ?_
  -- region 1
  refine CW.region ?_
  refine RW.op1 rfl (runs_assign rfl) ?_
  refine RW.done ?_
  refine AQ.next ?_
  refine CW.seq ?_
  -- region 2
  refine CW.region ?_
  refine RW.op1 rfl (runs_buildF (cells := [_, _]) bz30 rfl rfl rfl rfl rfl) ?_
  refine RW.opE rfl (runs_alloc ti30 hst) ?_
  rintro _ w ⟨b1, rfl, hstn⟩
  clear hst
  have hst := hstn
  clear hstn
  first
    | refine RW.opE0 (runs_storeW ti30 rfl rfl hst (k := 0) rfl rfl rfl (NoFz.zero _) rfl) ?_
    | refine RW.opE0 (runs_storeP ti30 rfl rfl hst (k := 0) rfl rfl rfl (NoFz.zero _) rfl) ?_
    | refine RW.opE0 (runs_storeW ti30 rfl rfl hst (k := 1) rfl rfl rfl (NoFz.zero _) rfl) ?_
    | refine RW.opE0 (runs_storeP ti30 rfl rfl hst (k := 1) rfl rfl rfl (NoFz.zero _) rfl) ?_
    | refine RW.opE0 (runs_storeW ti30 rfl rfl hst (k := 2) rfl rfl rfl (NoFz.zero _) rfl) ?_
    | refine RW.opE0 (runs_storeP ti30 rfl rfl hst (k := 2) rfl rfl rfl (NoFz.zero _) rfl) ?_
  rintro w hstn
  clear hst
  have hst := hstn
  clear hstn
  try simp only [List.set_cons_zero, List.set_cons_succ] at hst
  refine RW.done ?_
  refine AQ.next ?_
  refine CW.seq ?_
  refine CW.seq ?_
  -- region 3
  refine CW.region ?_
  refine RW.op1 rfl (runs_buildF (cells := [_, _, _, _, _]) bz32 rfl rfl rfl rfl rfl) ?_
  refine RW.op1 rfl (runs_buildF (cells := [_, _]) bz30 rfl rfl rfl rfl rfl) ?_
  refine RW.opE rfl (runs_litF (xs := [.agg #[_, _]]) Tryd.underlying31 ti30 (by decide) rfl rfl rfl rfl rfl hst (by decide)) ?_
  rintro u3 w ⟨Lv3, hstn, hg3⟩
  clear hst
  have hst := hstn
  clear hstn
  obtain ⟨J3, hJ3, hstn, h3⟩ := Grow.freeze hg3 hst
  clear hst
  have hst := hstn
  clear hstn
  replace hM := hM.mono hJ3
  replace hle := hle.trans hJ3
  try simp only [List.nil_append] at h3
  replace h3 : RdH J3 u3 (([(allowOL, [42])] : List HL).map hrowC) := h3
  obtain ⟨A12, C12, rfl⟩ : ∃ A c, u3 = .slice A 1 c := by obtain ⟨_, _, A, c, e, _⟩ := h3; exact ⟨A, c, e⟩
  have hR12 := h3
  refine RW.op1 rfl (runs_buildF (cells := [_, _, _, _, _]) bz32 rfl rfl rfl rfl rfl) ?_
  refine RW.op1 rfl (runs_move rfl) ?_
  refine RW.op1 rfl (runs_buildF (cells := [_, _]) bz30 rfl rfl rfl rfl rfl) ?_
  refine RW.opE rfl (runs_litF (xs := [.agg #[_, _]]) Tryd.underlying31 ti30 (by decide) rfl rfl rfl rfl rfl hst (by decide)) ?_
  rintro u4 w ⟨Lv4, hstn, hg4⟩
  clear hst
  have hst := hstn
  clear hstn
  obtain ⟨J4, hJ4, hstn, h4⟩ := Grow.freeze hg4 hst
  clear hst
  have hst := hstn
  clear hstn
  replace hM := hM.mono hJ4
  replace h3 := h3.mono hJ4
  replace hR12 := hR12.mono hJ4
  replace hle := hle.trans hJ4
  try simp only [List.nil_append] at h4
  replace h4 : RdH J4 u4 (([([65, 108, 108, 111, 119, 45, 79, 114, 105, 103, 105, 110], ohL)] : List HL).map hrowC) := h4
  obtain ⟨A16, C16, rfl⟩ : ∃ A c, u4 = .slice A 1 c := by obtain ⟨_, _, A, c, e, _⟩ := h4; exact ⟨A, c, e⟩
  have hR16 := h4
  refine RW.op1 rfl (runs_buildF (cells := [_, _, _, _, _]) bz32 rfl rfl rfl rfl rfl) ?_
  refine RW.op1 rfl (runs_move rfl) ?_
  refine RW.op1 rfl (runs_buildF (cells := [_, _]) bz30 rfl rfl rfl rfl rfl) ?_
  refine RW.op1 rfl (runs_buildF (cells := [_, _]) bz30 rfl rfl rfl rfl rfl) ?_
  refine RW.opE rfl (runs_litF (xs := [.agg #[_, _], .agg #[_, _]]) Tryd.underlying31 ti30 (by decide) rfl rfl rfl rfl rfl hst (by decide)) ?_
  rintro u5 w ⟨Lv5, hstn, hg5⟩
  clear hst
  have hst := hstn
  clear hstn
  obtain ⟨J5, hJ5, hstn, h5⟩ := Grow.freeze hg5 hst
  clear hst
  have hst := hstn
  clear hstn
  replace hM := hM.mono hJ5
  replace h3 := h3.mono hJ5
  replace hR12 := hR12.mono hJ5
  replace h4 := h4.mono hJ5
  replace hR16 := hR16.mono hJ5
  replace hle := hle.trans hJ5
  try simp only [List.nil_append] at h5
  replace h5 : RdH J5 u5 (([(allowOL, ohL), (acredL, trueL)] : List HL).map hrowC) := h5
  obtain ⟨A21, C21, rfl⟩ : ∃ A c, u5 = .slice A 2 c := by obtain ⟨_, _, A, c, e, _⟩ := h5; exact ⟨A, c, e⟩
  have hR21 := h5
  refine RW.op1 rfl (runs_buildF (cells := [_, _, _, _, _]) bz32 rfl rfl rfl rfl rfl) ?_
  refine RW.op1 rfl (runs_move rfl) ?_
  refine RW.op1 rfl (runs_buildF (cells := [_, _]) bz30 rfl rfl rfl rfl rfl) ?_
  refine RW.op1 rfl (runs_buildF (cells := [_, _]) bz30 rfl rfl rfl rfl rfl) ?_
  refine RW.opE rfl (runs_litF (xs := [.agg #[_, _], .agg #[_, _]]) Tryd.underlying31 ti30 (by decide) rfl rfl rfl rfl rfl hst (by decide)) ?_
  rintro u6 w ⟨Lv6, hstn, hg6⟩
  clear hst
  have hst := hstn
  clear hstn
  obtain ⟨J6, hJ6, hstn, h6⟩ := Grow.freeze hg6 hst
  clear hst
  have hst := hstn
  clear hstn
  replace hM := hM.mono hJ6
  replace h3 := h3.mono hJ6
  replace hR12 := hR12.mono hJ6
  replace h4 := h4.mono hJ6
  replace hR16 := hR16.mono hJ6
  replace h5 := h5.mono hJ6
  replace hR21 := hR21.mono hJ6
  replace hle := hle.trans hJ6
  try simp only [List.nil_append] at h6
  replace h6 : RdH J6 u6 (([(allowOL, ohL), (acredL, [84, 114, 117, 101])] : List HL).map hrowC) := h6
  obtain ⟨A26, C26, rfl⟩ : ∃ A c, u6 = .slice A 2 c := by obtain ⟨_, _, A, c, e, _⟩ := h6; exact ⟨A, c, e⟩
  have hR26 := h6
  refine RW.op1 rfl (runs_buildF (cells := [_, _, _, _, _]) bz32 rfl rfl rfl rfl rfl) ?_
  refine RW.op1 rfl (runs_buildF (cells := [_, _]) bz30 rfl rfl rfl rfl rfl) ?_
  refine RW.opE rfl (runs_litF (xs := [.agg #[_, _]]) Tryd.underlying31 ti30 (by decide) rfl rfl rfl rfl rfl hst (by decide)) ?_
  rintro u7 w ⟨Lv7, hstn, hg7⟩
  clear hst
  have hst := hstn
  clear hstn
  obtain ⟨J7, hJ7, hstn, h7⟩ := Grow.freeze hg7 hst
  clear hst
  have hst := hstn
  clear hstn
  replace hM := hM.mono hJ7
  replace h3 := h3.mono hJ7
  replace hR12 := hR12.mono hJ7
  replace h4 := h4.mono hJ7
  replace hR16 := hR16.mono hJ7
  replace h5 := h5.mono hJ7
  replace hR21 := hR21.mono hJ7
  replace h6 := h6.mono hJ7
  replace hR26 := hR26.mono hJ7
  replace hle := hle.trans hJ7
  try simp only [List.nil_append] at h7
  replace h7 : RdH J7 u7 (([(allowOL, [104, 116, 116, 112, 115, 58, 47, 47, 97, 46, 98, 47])] : List HL).map hrowC) := h7
  obtain ⟨A29, C29, rfl⟩ : ∃ A c, u7 = .slice A 1 c := by obtain ⟨_, _, A, c, e, _⟩ := h7; exact ⟨A, c, e⟩
  have hR29 := h7
  refine RW.op1 rfl (runs_buildF (cells := [_, _, _, _, _]) bz32 rfl rfl rfl rfl rfl) ?_
  refine RW.op1 rfl (runs_buildF (cells := [_, _]) bz30 rfl rfl rfl rfl rfl) ?_
  refine RW.op1 rfl (runs_buildF (cells := [_, _]) bz30 rfl rfl rfl rfl rfl) ?_
  refine RW.opE rfl (runs_litF (xs := [.agg #[_, _], .agg #[_, _]]) Tryd.underlying31 ti30 (by decide) rfl rfl rfl rfl rfl hst (by decide)) ?_
  rintro u8 w ⟨Lv8, hstn, hg8⟩
  clear hst
  have hst := hstn
  clear hstn
  obtain ⟨J8, hJ8, hstn, h8⟩ := Grow.freeze hg8 hst
  clear hst
  have hst := hstn
  clear hstn
  replace hM := hM.mono hJ8
  replace h3 := h3.mono hJ8
  replace hR12 := hR12.mono hJ8
  replace h4 := h4.mono hJ8
  replace hR16 := hR16.mono hJ8
  replace h5 := h5.mono hJ8
  replace hR21 := hR21.mono hJ8
  replace h6 := h6.mono hJ8
  replace hR26 := hR26.mono hJ8
  replace h7 := h7.mono hJ8
  replace hR29 := hR29.mono hJ8
  replace hle := hle.trans hJ8
  try simp only [List.nil_append] at h8
  replace h8 : RdH J8 u8 (([(allowOL, [110, 117, 108, 108]), (allowOL, [42])] : List HL).map hrowC) := h8
  obtain ⟨A33, C33, rfl⟩ : ∃ A c, u8 = .slice A 2 c := by obtain ⟨_, _, A, c, e, _⟩ := h8; exact ⟨A, c, e⟩
  have hR33 := h8
  refine RW.op1 rfl (runs_buildF (cells := [_, _, _, _, _]) bz32 rfl rfl rfl rfl rfl) ?_
  refine RW.op1 rfl (runs_buildF (cells := [_, _]) bz30 rfl rfl rfl rfl rfl) ?_
  refine RW.op1 rfl (runs_buildF (cells := [_, _]) bz30 rfl rfl rfl rfl rfl) ?_
  refine RW.op1 rfl (runs_buildF (cells := [_, _]) bz30 rfl rfl rfl rfl rfl) ?_
  refine RW.opE rfl (runs_litF (xs := [.agg #[_, _], .agg #[_, _], .agg #[_, _]]) Tryd.underlying31 ti30 (by decide) rfl rfl rfl rfl rfl hst (by decide)) ?_
  rintro u9 w ⟨Lv9, hstn, hg9⟩
  clear hst
  have hst := hstn
  clear hstn
  obtain ⟨J9, hJ9, hstn, h9⟩ := Grow.freeze hg9 hst
  clear hst
  have hst := hstn
  clear hstn
  replace hM := hM.mono hJ9
  replace h3 := h3.mono hJ9
  replace hR12 := hR12.mono hJ9
  replace h4 := h4.mono hJ9
  replace hR16 := hR16.mono hJ9
  replace h5 := h5.mono hJ9
  replace hR21 := hR21.mono hJ9
  replace h6 := h6.mono hJ9
  replace hR26 := hR26.mono hJ9
  replace h7 := h7.mono hJ9
  replace hR29 := hR29.mono hJ9
  replace h8 := h8.mono hJ9
  replace hR33 := hR33.mono hJ9
  replace hle := hle.trans hJ9
  try simp only [List.nil_append] at h9
  replace h9 : RdH J9 u9 (([(allowOL, [42]), (methL, [120, 44, 32, 80, 85, 84]), (ahdsL, [88, 45, 79, 78, 69])] : List HL).map hrowC) := h9
  obtain ⟨A38, C38, rfl⟩ : ∃ A c, u9 = .slice A 3 c := by obtain ⟨_, _, A, c, e, _⟩ := h9; exact ⟨A, c, e⟩
  have hR38 := h9
  refine RW.op1 rfl (runs_buildF (cells := [_, _, _, _, _]) bz32 rfl rfl rfl rfl rfl) ?_
  refine RW.op1 rfl (runs_move rfl) ?_
  refine RW.op1 rfl (runs_buildF (cells := [_, _]) bz30 rfl rfl rfl rfl rfl) ?_
  refine RW.op1 rfl (runs_buildF (cells := [_, _]) bz30 rfl rfl rfl rfl rfl) ?_
  refine RW.op1 rfl (runs_buildF (cells := [_, _]) bz30 rfl rfl rfl rfl rfl) ?_
  refine RW.opE rfl (runs_litF (xs := [.agg #[_, _], .agg #[_, _], .agg #[_, _]]) Tryd.underlying31 ti30 (by decide) rfl rfl rfl rfl rfl hst (by decide)) ?_
  rintro u10 w ⟨Lv10, hstn, hg10⟩
  clear hst
  have hst := hstn
  clear hstn
  obtain ⟨J10, hJ10, hstn, h10⟩ := Grow.freeze hg10 hst
  clear hst
  have hst := hstn
  clear hstn
  replace hM := hM.mono hJ10
  replace h3 := h3.mono hJ10
  replace hR12 := hR12.mono hJ10
  replace h4 := h4.mono hJ10
  replace hR16 := hR16.mono hJ10
  replace h5 := h5.mono hJ10
  replace hR21 := hR21.mono hJ10
  replace h6 := h6.mono hJ10
  replace hR26 := hR26.mono hJ10
  replace h7 := h7.mono hJ10
  replace hR29 := hR29.mono hJ10
  replace h8 := h8.mono hJ10
  replace hR33 := hR33.mono hJ10
  replace h9 := h9.mono hJ10
  replace hR38 := hR38.mono hJ10
  replace hle := hle.trans hJ10
  try simp only [List.nil_append] at h10
  replace h10 : RdH J10 u10 (([(allowOL, ohL), (methL, [42]), (ahdsL, [44, 42])] : List HL).map hrowC) := h10
  obtain ⟨A44, C44, rfl⟩ : ∃ A c, u10 = .slice A 3 c := by obtain ⟨_, _, A, c, e, _⟩ := h10; exact ⟨A, c, e⟩
  have hR44 := h10
  refine RW.op1 rfl (runs_buildF (cells := [_, _, _, _, _]) bz32 rfl rfl rfl rfl rfl) ?_
  refine RW.op1 rfl (runs_move rfl) ?_
  refine RW.op1 rfl (runs_buildF (cells := [_, _]) bz30 rfl rfl rfl rfl rfl) ?_
  refine RW.op1 rfl (runs_buildF (cells := [_, _]) bz30 rfl rfl rfl rfl rfl) ?_
  refine RW.opE rfl (runs_litF (xs := [.agg #[_, _], .agg #[_, _]]) Tryd.underlying31 ti30 (by decide) rfl rfl rfl rfl rfl hst (by decide)) ?_
  rintro u11 w ⟨Lv11, hstn, hg11⟩
  clear hst
  have hst := hstn
  clear hstn
  obtain ⟨J11, hJ11, hstn, h11⟩ := Grow.freeze hg11 hst
  clear hst
  have hst := hstn
  clear hstn
  replace hM := hM.mono hJ11
  replace h3 := h3.mono hJ11
  replace hR12 := hR12.mono hJ11
  replace h4 := h4.mono hJ11
  replace hR16 := hR16.mono hJ11
  replace h5 := h5.mono hJ11
  replace hR21 := hR21.mono hJ11
  replace h6 := h6.mono hJ11
  replace hR26 := hR26.mono hJ11
  replace h7 := h7.mono hJ11
  replace hR29 := hR29.mono hJ11
  replace h8 := h8.mono hJ11
  replace hR33 := hR33.mono hJ11
  replace h9 := h9.mono hJ11
  replace hR38 := hR38.mono hJ11
  replace h10 := h10.mono hJ11
  replace hR44 := hR44.mono hJ11
  replace hle := hle.trans hJ11
  try simp only [List.nil_append] at h11
  replace h11 : RdH J11 u11 (([(allowOL, ohL), (methL, [112, 117, 116])] : List HL).map hrowC) := h11
  obtain ⟨A49, C49, rfl⟩ : ∃ A c, u11 = .slice A 2 c := by obtain ⟨_, _, A, c, e, _⟩ := h11; exact ⟨A, c, e⟩
  have hR49 := h11
  refine RW.op1 rfl (runs_buildF (cells := [_, _, _, _, _]) bz32 rfl rfl rfl rfl rfl) ?_
  refine RW.op1 rfl (runs_buildF (cells := [_, _]) bz30 rfl rfl rfl rfl rfl) ?_
  refine RW.op1 rfl (runs_buildF (cells := [_, _]) bz30 rfl rfl rfl rfl rfl) ?_
  refine RW.op1 rfl (runs_buildF (cells := [_, _]) bz30 rfl rfl rfl rfl rfl) ?_
  refine RW.opE rfl (runs_litF (xs := [.agg #[_, _], .agg #[_, _], .agg #[_, _]]) Tryd.underlying31 ti30 (by decide) rfl rfl rfl rfl rfl hst (by decide)) ?_
  rintro u12 w ⟨Lv12, hstn, hg12⟩
  clear hst
  have hst := hstn
  clear hstn
  obtain ⟨J12, hJ12, hstn, h12⟩ := Grow.freeze hg12 hst
  clear hst
  have hst := hstn
  clear hstn
  replace hM := hM.mono hJ12
  replace h3 := h3.mono hJ12
  replace hR12 := hR12.mono hJ12
  replace h4 := h4.mono hJ12
  replace hR16 := hR16.mono hJ12
  replace h5 := h5.mono hJ12
  replace hR21 := hR21.mono hJ12
  replace h6 := h6.mono hJ12
  replace hR26 := hR26.mono hJ12
  replace h7 := h7.mono hJ12
  replace hR29 := hR29.mono hJ12
  replace h8 := h8.mono hJ12
  replace hR33 := hR33.mono hJ12
  replace h9 := h9.mono hJ12
  replace hR38 := hR38.mono hJ12
  replace h10 := h10.mono hJ12
  replace hR44 := hR44.mono hJ12
  replace h11 := h11.mono hJ12
  replace hR49 := hR49.mono hJ12
  replace hle := hle.trans hJ12
  try simp only [List.nil_append] at h12
  replace h12 : RdH J12 u12 (([(allowOL, [42]), (methL, [42]), (ahdsL, [42])] : List HL).map hrowC) := h12
  obtain ⟨A54, C54, rfl⟩ : ∃ A c, u12 = .slice A 3 c := by obtain ⟨_, _, A, c, e, _⟩ := h12; exact ⟨A, c, e⟩
  have hR54 := h12
  refine RW.op1 rfl (runs_buildF (cells := [_, _, _, _, _]) bz32 rfl rfl rfl rfl rfl) ?_
  refine RW.opE rfl (runs_litF (xs := [.agg #[_, _, _, _, _], .agg #[_, _, _, _, _], .agg #[_, _, _, _, _], .agg #[_, _, _, _, _], .agg #[_, _, _, _, _], .agg #[_, _, _, _, _], .agg #[_, _, _, _, _], .agg #[_, _, _, _, _], .agg #[_, _, _, _, _], .agg #[_, _, _, _, _], .agg #[_, _, _, _, _]]) Tryd.underlying33 ti32 (by decide) rfl rfl rfl rfl rfl hst (by decide)) ?_
  rintro u13 w ⟨Lv13, hstn, hg13⟩
  clear hst
  have hst := hstn
  clear hstn
  obtain ⟨J13, hJ13, hstn, h13⟩ := Grow.freeze hg13 hst
  clear hst
  have hst := hstn
  clear hstn
  replace hM := hM.mono hJ13
  replace h3 := h3.mono hJ13
  replace hR12 := hR12.mono hJ13
  replace h4 := h4.mono hJ13
  replace hR16 := hR16.mono hJ13
  replace h5 := h5.mono hJ13
  replace hR21 := hR21.mono hJ13
  replace h6 := h6.mono hJ13
  replace hR26 := hR26.mono hJ13
  replace h7 := h7.mono hJ13
  replace hR29 := hR29.mono hJ13
  replace h8 := h8.mono hJ13
  replace hR33 := hR33.mono hJ13
  replace h9 := h9.mono hJ13
  replace hR38 := hR38.mono hJ13
  replace h10 := h10.mono hJ13
  replace hR44 := hR44.mono hJ13
  replace h11 := h11.mono hJ13
  replace hR49 := hR49.mono hJ13
  replace h12 := h12.mono hJ13
  replace hR54 := hR54.mono hJ13
  replace hle := hle.trans hJ13
  try simp only [List.nil_append] at h13
  replace h13 : RdL J13 5 u13 11 (tabC [(.slice none 0 0), (.slice A12 1 C12), (.slice A16 1 C16), (.slice A21 2 C21), (.slice A26 2 C26), (.slice A29 1 C29), (.slice A33 2 C33), (.slice A38 3 C38), (.slice A44 3 C44), (.slice A49 2 C49), (.slice A54 3 C54)] formsT) := h13
  obtain ⟨vT, rfl⟩ : ∃ v, v = u13 := ⟨_, rfl⟩
  have hT := h13
  refine RW.op1 rfl (RdL.len Tryd.underlying33 rfl hT) ?_
  refine RW.op1 rfl (runs_move rfl) ?_
  refine RW.done ?_
  refine AQ.next ?_
  refine CW.block ?_
  -- loop 1
  have hV : Vals _ [(.slice none 0 0), (.slice A12 1 C12), (.slice A16 1 C16), (.slice A21 2 C21), (.slice A26 2 C26), (.slice A29 1 C29), (.slice A33 2 C33), (.slice A38 3 C38), (.slice A44 3 C44), (.slice A49 2 C49), (.slice A54 3 C54)] formsT := (Vals.cons (200, [], false, false, false) (show RdH _ (.slice none 0 0) (([] : List HL).map hrowC) from RdL.nil 2) (Vals.cons (200, [(allowOL, [42])], true, false, false) hR12 (Vals.cons (200, [([65, 108, 108, 111, 119, 45, 79, 114, 105, 103, 105, 110], ohL)], true, false, false) hR16 (Vals.cons (200, [(allowOL, ohL), (acredL, trueL)], true, true, false) hR21 (Vals.cons (200, [(allowOL, ohL), (acredL, [84, 114, 117, 101])], true, false, false) hR26 (Vals.cons (200, [(allowOL, [104, 116, 116, 112, 115, 58, 47, 47, 97, 46, 98, 47])], false, false, false) hR29 (Vals.cons (200, [(allowOL, [110, 117, 108, 108]), (allowOL, [42])], false, false, false) hR33 (Vals.cons (204, [(allowOL, [42]), (methL, [120, 44, 32, 80, 85, 84]), (ahdsL, [88, 45, 79, 78, 69])], true, false, true) hR38 (Vals.cons (299, [(allowOL, ohL), (methL, [42]), (ahdsL, [44, 42])], true, false, true) hR44 (Vals.cons (200, [(allowOL, ohL), (methL, [112, 117, 116])], true, false, false) hR49 (Vals.cons (300, [(allowOL, [42]), (methL, [42]), (ahdsL, [42])], true, false, false) hR54 Vals.nil)))))))))))
  generalize ([(.slice none 0 0), (.slice A12 1 C12), (.slice A16 1 C16), (.slice A21 2 C21), (.slice A26 2 C26), (.slice A29 1 C29), (.slice A33 2 C33), (.slice A38 3 C38), (.slice A44 3 C44), (.slice A49 2 C49), (.slice A54 3 C54)] : List Value) = VS at hT hV
  refine CW.loop (Nat × Imm) (fun x w => I.le x.2 ∧ MaxK x.2 ∧ RdL x.2 5 vT 11 (tabC VS formsT) ∧ Vals x.2 VS formsT ∧ St w0 w x.2 ((b1, Obj.cells (Value.agg #[.string (strOf oneH.1), .string (strOf oneH.2)]).cells 30) :: L) ∧ x.1 ≤ 11) (fun x => [(0, .int .i64 n), (3, .string (strOf ohL)), (4, .pointer (some ⟨b1, 0, none⟩)), (56, vT), (57, .int .i64 (11 : Nat)), (58, .int .i64 (x.1 : Nat))]) (fun x => 11 - x.1) ⟨(0, _), ⟨hle, hM, hT, hV, hst, Nat.zero_le _⟩, ⟨rfl, rfl, rfl, rfl, rfl, rfl, trivial⟩⟩ ?_
  clear hle hM hT hV
  rintro ⟨k, I2⟩ w ⟨hle, hM, hT, hV, hstn, hk⟩
  dsimp only at hle hM hT hV hstn hk ⊢
  clear hst
  have hst := hstn
  clear hstn
  refine CW.seq ?_
  -- region 4
  refine CW.region ?_
  refine RW.op1 rfl (runs_lss rfl rfl) ?_
  refine RW.done ?_
  refine AQ.next ?_
  refine CW.seq ?_
  refine CW.cond rfl (fun hc59 => ?_) (fun hc59 => ?_)
  · have hcb59 := hc59
    try simp only [decide_eq_true_eq, decide_eq_false_iff_not] at hc59
    have hk1 : k < 11 := by omega
    obtain ⟨v, hvk⟩ : ∃ v, VS[k]? = some v := ⟨_, List.getElem?_eq_getElem (by rw [hV.1]; exact hk1)⟩
    obtain ⟨⟨code, hl, fa, fb, fc⟩, hfk⟩ : ∃ f, formsT[k]? = some f := ⟨_, List.getElem?_eq_getElem hk1⟩
    have hRf := hV.2 k v _ hvk hfk
    obtain ⟨f1, f2, f3, hHB⟩ := form_ok (List.mem_of_getElem? hfk)
    obtain ⟨A, c, rfl⟩ : ∃ A c, v = .slice A (hl.map hrowC).length c := by obtain ⟨_, _, A, c, e, _⟩ := hRf; exact ⟨A, c, e⟩
    dsimp only at hRf
    refine CW.skip ?_
    refine AQ.next ?_
    refine CW.seq ?_
    refine CW.block ?_
    refine CW.seq ?_
    -- region 5
    refine CW.region ?_
    refine RW.op1 rfl (RdL.indexAddr Tryd.underlying33 ti32 (by decide) rfl rfl hT (by omega)) ?_
    refine RW.op1 rfl (RdL.loadRow (row := cell5 (.slice A (hl.map hrowC).length c) (code, hl, fa, fb, fc)) ag32 ti32 rfl hT hst rfl (tab_at hvk hfk)) ?_
    refine RW.opE rfl (runs_alloc ti32 hst) ?_
    rintro _ w ⟨b14, rfl, hstn⟩
    clear hst
    have hst := hstn
    clear hstn
    first
      | refine RW.opE0 (runs_storeW ti32 rfl rfl hst (k := 0) rfl rfl rfl (NoFz.zero _) rfl) ?_
      | refine RW.opE0 (runs_storeP ti32 rfl rfl hst (k := 0) rfl rfl rfl (NoFz.zero _) rfl) ?_
      | refine RW.opE0 (runs_storeW ti32 rfl rfl hst (k := 1) rfl rfl rfl (NoFz.zero _) rfl) ?_
      | refine RW.opE0 (runs_storeP ti32 rfl rfl hst (k := 1) rfl rfl rfl (NoFz.zero _) rfl) ?_
      | refine RW.opE0 (runs_storeW ti32 rfl rfl hst (k := 2) rfl rfl rfl (NoFz.zero _) rfl) ?_
      | refine RW.opE0 (runs_storeP ti32 rfl rfl hst (k := 2) rfl rfl rfl (NoFz.zero _) rfl) ?_
    rintro w hstn
    clear hst
    have hst := hstn
    clear hstn
    try simp only [List.set_cons_zero, List.set_cons_succ] at hst
    refine RW.done ?_
    refine AQ.next ?_
    refine CW.seq ?_
    -- region 6
    refine CW.region ?_
    first
      | refine RW.op1 rfl (runs_fieldAddr0 rfl Tryd.underlying32 rfl ti3 (by decide)) ?_
      | refine RW.op1 rfl (runs_fieldAddr rfl Tryd.underlying32 rfl ti3 (by decide)) ?_
    first
      | refine RW.op1 rfl (runs_load1 sc3 rfl (hst.cell_own (k := 0) rfl rfl)) ?_
      | refine RW.op1 rfl (runs_load1 sc3 rfl (hst.cell_own (k := 1) rfl rfl)) ?_
      | refine RW.op1 rfl (runs_load1 sc3 rfl (hst.cell_own (k := 2) rfl rfl)) ?_
    first
      | refine RW.op1 rfl (runs_fieldAddr0 rfl Tryd.underlying32 rfl ti31 (by decide)) ?_
      | refine RW.op1 rfl (runs_fieldAddr rfl Tryd.underlying32 rfl ti31 (by decide)) ?_
    first
      | refine RW.op1 rfl (runs_load1 sc31 rfl (hst.cell_own (k := 0) rfl rfl)) ?_
      | refine RW.op1 rfl (runs_load1 sc31 rfl (hst.cell_own (k := 1) rfl rfl)) ?_
      | refine RW.op1 rfl (runs_load1 sc31 rfl (hst.cell_own (k := 2) rfl rfl)) ?_
    refine RW.op1 rfl (runs_buildF (cells := [_, _, _, _]) bz35 rfl rfl rfl rfl rfl) ?_
    refine RW.opE rfl (runs_alloc ti35 hst) ?_
    rintro _ w ⟨b16, rfl, hstn⟩
    clear hst
    have hst := hstn
    clear hstn
    first
      | refine RW.opE0 (runs_storeW ti35 rfl rfl hst (k := 0) rfl rfl rfl (NoFz.zero _) rfl) ?_
      | refine RW.opE0 (runs_storeP ti35 rfl rfl hst (k := 0) rfl rfl rfl (NoFz.zero _) rfl) ?_
      | refine RW.opE0 (runs_storeW ti35 rfl rfl hst (k := 1) rfl rfl rfl (NoFz.zero _) rfl) ?_
      | refine RW.opE0 (runs_storeP ti35 rfl rfl hst (k := 1) rfl rfl rfl (NoFz.zero _) rfl) ?_
      | refine RW.opE0 (runs_storeW ti35 rfl rfl hst (k := 2) rfl rfl rfl (NoFz.zero _) rfl) ?_
      | refine RW.opE0 (runs_storeP ti35 rfl rfl hst (k := 2) rfl rfl rfl (NoFz.zero _) rfl) ?_
    rintro w hstn
    clear hst
    have hst := hstn
    clear hstn
    try simp only [List.set_cons_zero, List.set_cons_succ] at hst
    refine RW.done ?_
    refine AQ.next ?_
    refine CW.seq ?_
    -- region 7
    refine CW.drawSt hst (.q 0 (.q 1 (.q 3 (.q 4 (.l 2 (.q 5 (.q 6 (.q 7 (.q 8 (.q 10 (.q 11 (.l 9 (.q 12 (.q 13 (.q 14 (.q 15 (.q 16 (.q 17 (.q 20 (.q 21 (.l 18 (.l 19 (.q 22 (.q 23 .nil)))))))))))))))))))))))) follows (by kernel_rfl) (fun w hst => ?_)
    first
      | refine DRW.q rfl rfl (FSt.loadN (vs := [_, _, _, _]) ag35 ti35 rfl (k := 0) rfl rfl rfl) ?_
      | refine DRW.q rfl rfl (FSt.loadN (vs := [_, _, _, _]) ag35 ti35 rfl (k := 1) rfl rfl rfl) ?_
      | refine DRW.q rfl rfl (FSt.loadN (vs := [_, _, _, _]) ag35 ti35 rfl (k := 2) rfl rfl rfl) ?_
    refine DRW.q rfl rfl (fun w' hF => runs_move rfl) ?_
    first
      | refine DRW.q rfl rfl (fun w' hF => runs_fieldAddr0 rfl Tryd.underlying32 rfl ti4 (by decide)) ?_
      | refine DRW.q rfl rfl (fun w' hF => runs_fieldAddr rfl Tryd.underlying32 rfl ti4 (by decide)) ?_
    first
      | refine DRW.q rfl rfl (FSt.load1_own sc4 rfl (k := 0) rfl rfl) ?_
      | refine DRW.q rfl rfl (FSt.load1_own sc4 rfl (k := 1) rfl rfl) ?_
      | refine DRW.q rfl rfl (FSt.load1_own sc4 rfl (k := 2) rfl rfl) ?_
    refine DRW.call rfl rfl call12 rfl rfl (check_spec hst hRf hHB code ⟨#[]⟩ false (ByteArray.mk ohL.toArray) false) ?_
    rintro e w ⟨I18, hI18, rfl, hstn⟩
    clear hst
    have hst := hstn
    clear hstn
    rw [checkE f1]
    replace hM := hM.mono hI18
    replace hT := hT.mono hI18
    replace hV := hV.mono hI18
    replace hRf := hRf.mono hI18
    replace hle := hle.trans hI18
    refine ⟨_, rfl, FSt.of hst hI18 (by first | exact (List.sublist_cons_self _ _).trans (List.sublist_append_right _ _) | exact List.Sublist.refl _ | exact List.sublist_cons_self _ _ | exact List.sublist_append_right _ _ | exact (List.sublist_cons_self _ _).trans (List.sublist_cons_self _ _) | exact (List.sublist_append_right _ _).trans (List.sublist_cons_self _ _) | simp), ?_⟩
    refine DRW.q rfl rfl (fun w' hF => runs_neB Tryd.underlying4 rfl rfl) ?_
    refine DRW.q rfl rfl (fun w' hF => runs_move rfl) ?_
    have hk73 := (show (!(fa == fa)) = false by simp)
    first
      | refine DRW.q_on rfl rfl rfl rfl hk73 rfl (FSt.loadN (vs := [_, _, _, _]) ag35 ti35 rfl (k := 0) rfl rfl rfl) ?_
      | refine DRW.q_on rfl rfl rfl rfl hk73 rfl (FSt.loadN (vs := [_, _, _, _]) ag35 ti35 rfl (k := 1) rfl rfl rfl) ?_
      | refine DRW.q_on rfl rfl rfl rfl hk73 rfl (FSt.loadN (vs := [_, _, _, _]) ag35 ti35 rfl (k := 2) rfl rfl rfl) ?_
    refine DRW.q_on rfl rfl rfl rfl hk73 rfl (fun w' hF => runs_move rfl) ?_
    first
      | refine DRW.q_on rfl rfl rfl rfl hk73 rfl (fun w' hF => runs_fieldAddr0 rfl Tryd.underlying32 rfl ti4 (by decide)) ?_
      | refine DRW.q_on rfl rfl rfl rfl hk73 rfl (fun w' hF => runs_fieldAddr rfl Tryd.underlying32 rfl ti4 (by decide)) ?_
    first
      | refine DRW.q_on rfl rfl rfl rfl hk73 rfl (FSt.load1_own sc4 rfl (k := 0) rfl rfl) ?_
      | refine DRW.q_on rfl rfl rfl rfl hk73 rfl (FSt.load1_own sc4 rfl (k := 1) rfl rfl) ?_
      | refine DRW.q_on rfl rfl rfl rfl hk73 rfl (FSt.load1_own sc4 rfl (k := 2) rfl rfl) ?_
    refine DRW.call_on rfl rfl rfl rfl hk73 rfl call12 rfl rfl (check_spec hst hRf hHB code ⟨#[]⟩ false (ByteArray.mk ohL.toArray) true) ?_
    rintro e w ⟨I19, hI19, rfl, hstn⟩
    clear hst
    have hst := hstn
    clear hstn
    rw [checkE f2]
    replace hM := hM.mono hI19
    replace hT := hT.mono hI19
    replace hV := hV.mono hI19
    replace hRf := hRf.mono hI19
    replace hle := hle.trans hI19
    refine ⟨_, rfl, FSt.of hst (hI18.trans hI19) (by first | exact (List.sublist_cons_self _ _).trans (List.sublist_append_right _ _) | exact List.Sublist.refl _ | exact List.sublist_cons_self _ _ | exact List.sublist_append_right _ _ | exact (List.sublist_cons_self _ _).trans (List.sublist_cons_self _ _) | exact (List.sublist_append_right _ _).trans (List.sublist_cons_self _ _) | simp), ?_⟩
    refine DRW.q_on rfl rfl rfl rfl hk73 rfl (fun w' hF => runs_neB Tryd.underlying4 rfl rfl) ?_
    refine DRW.q rfl rfl (fun w' hF => runs_pick_false rfl hk73 rfl) ?_
    refine DRW.q rfl rfl (fun w' hF => runs_move rfl) ?_
    have hk81 := (show (!(fb == fb)) = false by simp)
    first
      | refine DRW.q_on rfl rfl rfl rfl hk81 rfl (FSt.loadN (vs := [_, _, _, _]) ag35 ti35 rfl (k := 0) rfl rfl rfl) ?_
      | refine DRW.q_on rfl rfl rfl rfl hk81 rfl (FSt.loadN (vs := [_, _, _, _]) ag35 ti35 rfl (k := 1) rfl rfl rfl) ?_
      | refine DRW.q_on rfl rfl rfl rfl hk81 rfl (FSt.loadN (vs := [_, _, _, _]) ag35 ti35 rfl (k := 2) rfl rfl rfl) ?_
    refine DRW.q_on rfl rfl rfl rfl hk81 rfl (fun w' hF => runs_move rfl) ?_
    first
      | refine DRW.q_on rfl rfl rfl rfl hk81 rfl (FSt.loadN (vs := [_, _]) ag30 ti30 rfl (k := 0) rfl rfl rfl) ?_
      | refine DRW.q_on rfl rfl rfl rfl hk81 rfl (FSt.loadN (vs := [_, _]) ag30 ti30 rfl (k := 1) rfl rfl rfl) ?_
      | refine DRW.q_on rfl rfl rfl rfl hk81 rfl (FSt.loadN (vs := [_, _]) ag30 ti30 rfl (k := 2) rfl rfl rfl) ?_
    first
      | refine DRW.q_on rfl rfl rfl rfl hk81 rfl (fun w' hF => runs_fieldAddr0 rfl Tryd.underlying32 rfl ti4 (by decide)) ?_
      | refine DRW.q_on rfl rfl rfl rfl hk81 rfl (fun w' hF => runs_fieldAddr rfl Tryd.underlying32 rfl ti4 (by decide)) ?_
    first
      | refine DRW.q_on rfl rfl rfl rfl hk81 rfl (FSt.load1_own sc4 rfl (k := 0) rfl rfl) ?_
      | refine DRW.q_on rfl rfl rfl rfl hk81 rfl (FSt.load1_own sc4 rfl (k := 1) rfl rfl) ?_
      | refine DRW.q_on rfl rfl rfl rfl hk81 rfl (FSt.load1_own sc4 rfl (k := 2) rfl rfl) ?_
    refine DRW.opE_on rfl rfl rfl rfl hk81 rfl (runs_litF (xs := [.agg #[_, _]]) Tryd.underlying31 ti30 (by decide) rfl rfl rfl rfl rfl hst (by decide)) ?_
    rintro u20 w ⟨Lv20, hstn, hg20⟩
    clear hst
    have hst := hstn
    clear hstn
    refine ⟨FSt.of hst (hI18.trans hI19) (by first | exact (List.sublist_cons_self _ _).trans (List.sublist_append_right _ _) | exact List.Sublist.refl _ | exact List.sublist_cons_self _ _ | exact List.sublist_append_right _ _ | exact (List.sublist_cons_self _ _).trans (List.sublist_cons_self _ _) | exact (List.sublist_append_right _ _).trans (List.sublist_cons_self _ _) | simp), ?_⟩
    obtain ⟨J20, hJ20, hstn, h20⟩ := Grow.freeze hg20 hst
    clear hst
    have hst := hstn
    clear hstn
    replace hM := hM.mono hJ20
    replace hT := hT.mono hJ20
    replace hV := hV.mono hJ20
    replace hRf := hRf.mono hJ20
    replace hle := hle.trans hJ20
    try simp only [List.nil_append] at h20
    replace h20 : RdH J20 u20 (([oneH] : List HL).map hrowC) := h20
    have hO := h20
    refine DRW.call_on rfl rfl rfl rfl hk81 rfl call13 rfl rfl (pre_spec hst hM hRf hHB code ⟨#[]⟩ false hO (HB.ofC (by decide) (by decide)) (ByteArray.mk ohL.toArray) (strOf [80, 85, 84]) (by decide) false) ?_
    rintro e w ⟨I21, hI21, rfl, hstn⟩
    clear hst
    have hst := hstn
    clear hstn
    rw [preE [oneH] f3]
    replace hM := hM.mono hI21
    replace hT := hT.mono hI21
    replace hV := hV.mono hI21
    replace hRf := hRf.mono hI21
    replace h20 := h20.mono hI21
    replace hO := hO.mono hI21
    replace hle := hle.trans hI21
    refine ⟨_, rfl, FSt.of hst (((hI18.trans hI19).trans hJ20).trans hI21) (by first | exact (List.sublist_cons_self _ _).trans (List.sublist_append_right _ _) | exact List.Sublist.refl _ | exact List.sublist_cons_self _ _ | exact List.sublist_append_right _ _ | exact (List.sublist_cons_self _ _).trans (List.sublist_cons_self _ _) | exact (List.sublist_append_right _ _).trans (List.sublist_cons_self _ _) | simp), ?_⟩
    refine DRW.q_on rfl rfl rfl rfl hk81 rfl (fun w' hF => runs_neB Tryd.underlying4 rfl rfl) ?_
    refine DRW.q rfl rfl (fun w' hF => runs_pick_false rfl hk81 rfl) ?_
    refine DRW.done ?_
    refine AQ.next ?_
    refine CW.cond rfl (fun hc => absurd hc (by simp)) (fun hc => ?_)
    refine CW.skip ?_
    refine AQ.block_normal ?_
    refine AQ.next ?_
    -- region 9
    refine CW.region ?_
    refine RW.op1 rfl (runs_add rfl rfl (by omega)) ?_
    refine RW.op1 rfl (runs_move rfl) ?_
    refine RW.done ?_
    exact AQ.again (x := (k, I2)) (k + 1, _) ⟨hle, hM, hT, hV, hst.drop1.drop1, by dsimp only; omega⟩ ⟨rfl, rfl, rfl, rfl, rfl, rfl, trivial⟩ (by dsimp only; omega)
  · have hcb59 := hc59
    try simp only [decide_eq_true_eq, decide_eq_false_iff_not] at hc59
    skip
    refine CW.exit ?_
    refine AQ.past_exit ?_
    refine AQ.past_exit ?_
    refine AQ.block_hit ?_
    refine AQ.next ?_
    refine CW.seq ?_
    -- region 10
    refine CW.region ?_
    refine RW.opE rfl (runs_lit1R Tryd.underlying23 ti9 (by decide) rfl rfl rfl (by simp [Value.oneCell']) hst) ?_
    rintro u22 w ⟨I22, hI22, hstn, h22⟩
    clear hst
    have hst := hstn
    clear hstn
    replace hM := hM.mono hI22
    replace hT := hT.mono hI22
    replace hV := hV.mono hI22
    replace hle := hle.trans hI22
    have hN : RdS _ u22 (comL.map strOf) := h22
    refine RW.op1 rfl (runs_move rfl) ?_
    refine RW.call rfl call8 rfl rfl (within_spec hst (v := n) (n := 3) hn (by unfold i64ok; decide)) ?_
    rintro e w ⟨rfl, hstn⟩
    clear hst
    have hst := hstn
    clear hstn
    have r0 := within_range n 3
    have r0t := r0.2 (by decide)
    obtain ⟨j, hj⟩ : ∃ j : Nat, within n 3 = (j : Int) := ⟨(within n 3).toNat, by omega⟩
    rw [hj] at r0 r0t ⊢
    have hj3 : j < 3 := by omega
    obtain ⟨g1, g2⟩ := com_all j hj3
    have es := sat_at comL j
    refine ⟨_, rfl, ?_⟩
    refine RW.op1 rfl (RdL.indexAddr Tryd.underlying23 ti9 (by decide) rfl rfl hN (by show 0 ≤ (j : Int) ∧ (j : Int) < 3; omega)) ?_
    refine RW.op1 rfl (runs_load1 sc9 rfl (hst.cell_imm (RdS.at hN (by omega) (by show (j : Int) < 3; omega)))) ?_
    rw [es]
    refine RW.op1 rfl (runs_assign rfl) ?_
    refine RW.done ?_
    refine AQ.next ?_
    refine CW.seq ?_
    -- region 11
    refine CW.region ?_
    refine RW.op1 rfl (runs_move rfl) ?_
    refine RW.op1 rfl (runs_buildF (cells := [_, _]) bz30 rfl rfl rfl rfl rfl) ?_
    refine RW.opE rfl (runs_litF (xs := [.agg #[_, _]]) Tryd.underlying31 ti30 (by decide) rfl rfl rfl rfl rfl hst (by decide)) ?_
    rintro u24 w ⟨Lv24, hstn, hg24⟩
    clear hst
    have hst := hstn
    clear hstn
    obtain ⟨J24, hJ24, hstn, h24⟩ := Grow.freeze hg24 hst
    clear hst
    have hst := hstn
    clear hstn
    replace hM := hM.mono hJ24
    replace hT := hT.mono hJ24
    replace hV := hV.mono hJ24
    replace h22 := h22.mono hJ24
    replace hN := hN.mono hJ24
    replace hle := hle.trans hJ24
    try simp only [List.nil_append] at h24
    replace h24 : RdH J24 u24 (([accX] : List HL).map hrowC) := h24
    have hX := h24
    refine RW.call rfl call14 rfl rfl (plain_spec hst hM hX (HB.ofC (by decide) (by decide)) (strOf (comL.getD j []))) ?_
    rintro e w ⟨I25, hI25, rfl, hstn⟩
    clear hst
    have hst := hstn
    clear hstn
    rw [plainE g1]
    replace hM := hM.mono hI25
    replace hT := hT.mono hI25
    replace hV := hV.mono hI25
    replace h22 := h22.mono hI25
    replace hN := hN.mono hI25
    replace h24 := h24.mono hI25
    replace hX := hX.mono hI25
    replace hle := hle.trans hI25
    refine ⟨_, rfl, ?_⟩
    refine RW.op1 rfl (runs_move rfl) ?_
    have hk101 := (show true = true from rfl)
    refine RW.on_guard rfl rfl rfl rfl hk101 ?_
    refine RW.op1 rfl (runs_move rfl) ?_
    refine RW.on_guard rfl rfl rfl rfl hk101 ?_
    first
      | refine RW.op1 rfl (runs_loadN (vs := [_, _]) ag30 ti30 rfl hst (k := 0) rfl rfl rfl) ?_
      | refine RW.op1 rfl (runs_loadN (vs := [_, _]) ag30 ti30 rfl hst (k := 1) rfl rfl rfl) ?_
      | refine RW.op1 rfl (runs_loadN (vs := [_, _]) ag30 ti30 rfl hst (k := 2) rfl rfl rfl) ?_
    refine RW.on_guard rfl rfl rfl rfl hk101 ?_
    refine RW.opE rfl (runs_litF (xs := [.agg #[_, _]]) Tryd.underlying31 ti30 (by decide) rfl rfl rfl rfl rfl hst (by decide)) ?_
    rintro u26 w ⟨Lv26, hstn, hg26⟩
    clear hst
    have hst := hstn
    clear hstn
    obtain ⟨J26, hJ26, hstn, h26⟩ := Grow.freeze hg26 hst
    clear hst
    have hst := hstn
    clear hstn
    replace hM := hM.mono hJ26
    replace hT := hT.mono hJ26
    replace hV := hV.mono hJ26
    replace h22 := h22.mono hJ26
    replace hN := hN.mono hJ26
    replace h24 := h24.mono hJ26
    replace hX := hX.mono hJ26
    replace hle := hle.trans hJ26
    try simp only [List.nil_append] at h26
    replace h26 : RdH J26 u26 (([oneH] : List HL).map hrowC) := h26
    have hO2 := h26
    refine RW.on_guard rfl rfl rfl rfl hk101 ?_
    refine RW.call rfl call14 rfl rfl (plain_spec hst hM hO2 (HB.ofC (by decide) (by decide)) (strOf (comL.getD j []))) ?_
    rintro e w ⟨I27, hI27, rfl, hstn⟩
    clear hst
    have hst := hstn
    clear hstn
    rw [plainE g2]
    replace hM := hM.mono hI27
    replace hT := hT.mono hI27
    replace hV := hV.mono hI27
    replace h22 := h22.mono hI27
    replace hN := hN.mono hI27
    replace h24 := h24.mono hI27
    replace hX := hX.mono hI27
    replace h26 := h26.mono hI27
    replace hO2 := hO2.mono hI27
    replace hle := hle.trans hI27
    refine ⟨_, rfl, ?_⟩
    refine RW.on_guard rfl rfl rfl rfl hk101 ?_
    refine RW.op1 rfl (runs_not rfl) ?_
    refine RW.op1 rfl (runs_pick_true rfl hk101 rfl) ?_
    refine RW.op1 rfl (runs_move rfl) ?_
    have hk108 := (show (!false) = true from rfl)
    refine RW.on_guard rfl rfl rfl rfl hk108 ?_
    refine RW.call rfl call14 rfl rfl (plain_spec hst hM (show RdH _ (.slice none 0 0) (([] : List HL).map hrowC) from RdL.nil 2) HB.nil (strOf [68, 69, 76, 69, 84, 69])) ?_
    rintro e w ⟨I28, hI28, rfl, hstn⟩
    clear hst
    have hst := hstn
    clear hstn
    rw [plainE com_del]
    replace hM := hM.mono hI28
    replace hT := hT.mono hI28
    replace hV := hV.mono hI28
    replace h22 := h22.mono hI28
    replace hN := hN.mono hI28
    replace h24 := h24.mono hI28
    replace hX := hX.mono hI28
    replace h26 := h26.mono hI28
    replace hO2 := hO2.mono hI28
    replace hle := hle.trans hI28
    refine ⟨_, rfl, ?_⟩
    refine RW.on_guard rfl rfl rfl rfl hk108 ?_
    refine RW.op1 rfl (runs_not rfl) ?_
    refine RW.op1 rfl (runs_pick_true rfl hk108 rfl) ?_
    refine RW.op1 rfl (runs_move rfl) ?_
    have hk112 := (show (!false) = true from rfl)
    refine RW.on_guard rfl rfl rfl rfl hk112 ?_
    refine RW.call rfl call14 rfl rfl (plain_spec hst hM (show RdH _ (.slice none 0 0) (([] : List HL).map hrowC) from RdL.nil 2) HB.nil (strOf [103, 101, 116])) ?_
    rintro e w ⟨I29, hI29, rfl, hstn⟩
    clear hst
    have hst := hstn
    clear hstn
    rw [plainE com_get]
    replace hM := hM.mono hI29
    replace hT := hT.mono hI29
    replace hV := hV.mono hI29
    replace h22 := h22.mono hI29
    replace hN := hN.mono hI29
    replace h24 := h24.mono hI29
    replace hX := hX.mono hI29
    replace h26 := h26.mono hI29
    replace hO2 := hO2.mono hI29
    replace hle := hle.trans hI29
    refine ⟨_, rfl, ?_⟩
    refine RW.on_guard rfl rfl rfl rfl hk112 ?_
    refine RW.op1 rfl (runs_not rfl) ?_
    refine RW.op1 rfl (runs_pick_true rfl hk112 rfl) ?_
    refine RW.op1 rfl (runs_move rfl) ?_
    have hk116 := (show (!false) = true from rfl)
    refine RW.on_guard rfl rfl rfl rfl hk116 ?_
    refine RW.call rfl call10 rfl rfl (list_spec hst hM (ByteArray.mk lsA.toArray) (by decide)) ?_
    rintro e w ⟨I30, vA, hI30, rfl, hA, hstn⟩
    clear hst
    have hst := hstn
    clear hstn
    rw [parts_A] at hA
    replace hM := hM.mono hI30
    replace hT := hT.mono hI30
    replace hV := hV.mono hI30
    replace h22 := h22.mono hI30
    replace hN := hN.mono hI30
    replace h24 := h24.mono hI30
    replace hX := hX.mono hI30
    replace h26 := h26.mono hI30
    replace hO2 := hO2.mono hI30
    replace hle := hle.trans hI30
    refine ⟨_, rfl, ?_⟩
    refine RW.on_guard rfl rfl rfl rfl hk116 ?_
    refine RW.opE rfl (runs_lit1R Tryd.underlying23 ti9 (by decide) rfl rfl rfl (by simp [Value.oneCell']) hst) ?_
    rintro u31 w ⟨I31, hI31, hstn, h31⟩
    clear hst
    have hst := hstn
    clear hstn
    replace hM := hM.mono hI31
    replace hT := hT.mono hI31
    replace hV := hV.mono hI31
    replace h22 := h22.mono hI31
    replace hN := hN.mono hI31
    replace h24 := h24.mono hI31
    replace hX := hX.mono hI31
    replace h26 := h26.mono hI31
    replace hO2 := hO2.mono hI31
    replace hA := hA.mono hI31
    replace hle := hle.trans hI31
    have hW : RdS _ u31 (([[97], [98], [99]] : List (List UInt8)).map strOf) := h31
    refine RW.on_guard rfl rfl rfl rfl hk116 ?_
    refine RW.call rfl call9 rfl rfl (sameS_spec hst hA hW (by decide)) ?_
    rintro e w ⟨rfl, hstn⟩
    clear hst
    have hst := hstn
    clear hstn
    refine ⟨_, rfl, ?_⟩
    refine RW.op1 rfl (runs_pick_true rfl hk116 rfl) ?_
    refine RW.op1 rfl (runs_move rfl) ?_
    have hk121 := (show true = true from rfl)
    refine RW.on_guard rfl rfl rfl rfl hk121 ?_
    refine RW.call rfl call10 rfl rfl (list_spec hst hM ⟨#[]⟩ (by decide)) ?_
    rintro e w ⟨I33, vB, hI33, rfl, hB, hstn⟩
    clear hst
    have hst := hstn
    clear hstn
    rw [parts_0] at hB
    replace hM := hM.mono hI33
    replace hT := hT.mono hI33
    replace hV := hV.mono hI33
    replace h22 := h22.mono hI33
    replace hN := hN.mono hI33
    replace h24 := h24.mono hI33
    replace hX := hX.mono hI33
    replace h26 := h26.mono hI33
    replace hO2 := hO2.mono hI33
    replace hA := hA.mono hI33
    replace h31 := h31.mono hI33
    replace hW := hW.mono hI33
    replace hle := hle.trans hI33
    refine ⟨_, rfl, ?_⟩
    refine RW.on_guard rfl rfl rfl rfl hk121 ?_
    refine RW.op1 rfl (RdL.len Tryd.underlying23 rfl hB) ?_
    refine RW.on_guard rfl rfl rfl rfl hk121 ?_
    refine RW.op1 rfl (runs_eqI rfl rfl) ?_
    refine RW.op1 rfl (runs_pick_true rfl hk121 rfl) ?_
    refine RW.op1 rfl (runs_move rfl) ?_
    have hk126 := (show decide ((((([] : List (List UInt8)).map strOf).length : Nat) : Int) = 0) = true by decide)
    refine RW.on_guard rfl rfl rfl rfl hk126 ?_
    refine RW.call rfl call11 rfl rfl (wakes13_spec hst hM) ?_
    rintro e w ⟨rfl, I34, hI34, hstn⟩
    clear hst
    have hst := hstn
    clear hstn
    replace hM := hM.mono hI34
    replace hT := hT.mono hI34
    replace hV := hV.mono hI34
    replace h22 := h22.mono hI34
    replace hN := hN.mono hI34
    replace h24 := h24.mono hI34
    replace hX := hX.mono hI34
    replace h26 := h26.mono hI34
    replace hO2 := hO2.mono hI34
    replace hA := hA.mono hI34
    replace h31 := h31.mono hI34
    replace hW := hW.mono hI34
    replace hB := hB.mono hI34
    replace hle := hle.trans hI34
    refine ⟨_, rfl, ?_⟩
    refine RW.op1 rfl (runs_pick_true rfl hk126 rfl) ?_
    refine RW.op1 rfl (runs_assign rfl) ?_
    refine RW.done ?_
    refine AQ.next ?_
    refine CW.ret ?_
    refine AQ.ret1 rfl rfl ?_
    exact ⟨rfl, _, hle, hst.drop1⟩
end Go.Proofs.YtfdgnjbbchkgpaaDoorX
