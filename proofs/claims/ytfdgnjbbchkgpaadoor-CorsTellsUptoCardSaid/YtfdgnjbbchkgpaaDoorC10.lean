/- Answers, headers that the statements make: what these come to. -/
import Derived.Test.YtfdgnjbbchkgpaaDoorT
import Derived.Test.YtfdgnjbbchkgpaaDoorC9
import Derived.Test.YtfdgnjbbchkgpaaDoorP1
namespace Go.Proofs.YtfdgnjbbchkgpaaDoorX
set_option linter.unusedVariables false
set_option linter.unusedSimpArgs false
open Go Go.RowKit Go.Proofs

def headsL (s : ByteArray) : List HRow := [(⟨#[97, 108, 108, 111, 119, 45, 111, 114, 105, 103, 105, 110]⟩, ⟨#[42]⟩), (⟨#[65, 108, 108, 111, 119, 45, 79, 114, 105, 103, 105, 110]⟩, ⟨#[104, 116, 116, 112, 115, 58, 47, 47, 97, 46, 98]⟩), (⟨#[97, 108, 108, 111, 119, 45, 111, 114, 105, 103, 105, 110]⟩, ⟨#[110, 117, 108, 108]⟩), (⟨#[97, 108, 108, 111, 119, 45, 99, 114, 101, 100, 115]⟩, ⟨#[116, 114, 117, 101]⟩), (⟨#[97, 108, 108, 111, 119, 45, 109, 101, 116, 104, 111, 100, 115]⟩, ⟨#[112, 117, 116, 44, 32, 68, 69, 76, 69, 84, 69]⟩), (⟨#[97, 108, 108, 111, 119, 45, 109, 101, 116, 104, 111, 100, 115]⟩, ⟨#[42]⟩), (⟨#[97, 108, 108, 111, 119, 45, 104, 101, 97, 100, 115]⟩, ⟨#[120, 45, 111, 110, 101, 44, 44, 32, 67, 111, 110, 116, 101, 110, 116, 45, 116, 121, 112, 101]⟩), (⟨#[97, 108, 108, 111, 119, 45, 104, 101, 97, 100, 115]⟩, ⟨#[42]⟩), (⟨#[101, 116, 97, 103]⟩, ⟨#[34, 97, 34]⟩), (⟨#[69, 84, 97, 103]⟩, ⟨#[34, 98, 34]⟩), (⟨#[101, 116, 97, 103]⟩, ⟨#[87, 47, 34, 97, 34]⟩), (⟨#[114, 101, 116, 114, 121, 45, 97, 102, 116, 101, 114]⟩, ⟨#[53]⟩), (⟨#[114, 101, 116, 114, 121, 45, 97, 102, 116, 101, 114]⟩, ⟨#[57, 57]⟩), (⟨#[114, 101, 116, 114, 121, 45, 97, 102, 116, 101, 114]⟩, ⟨#[120]⟩), (⟨#[108, 111, 99, 97, 116, 105, 111, 110]⟩, ⟨#[104, 116, 116, 112, 115, 58, 47, 47, 99, 46, 100, 47, 112, 63, 113]⟩), (⟨#[108, 111, 99, 97, 116, 105, 111, 110]⟩, ⟨#[47, 120]⟩), (⟨#[108, 111, 99, 97, 116, 105, 111, 110]⟩, ⟨#[47, 47, 115, 46, 99, 46, 100, 47, 121]⟩), (⟨#[108, 111, 99, 97, 116, 105, 111, 110]⟩, ⟨#[104, 116, 116, 112, 58, 47, 47, 97, 46, 98, 47]⟩), (⟨#[108, 111, 99, 97, 116, 105, 111, 110]⟩, ⟨#[63]⟩), (⟨#[99, 111, 110, 116, 101, 110, 116, 45, 114, 97, 110, 103, 101]⟩, ⟨#[98, 121, 116, 101, 115, 32, 51, 45, 55, 47, 56]⟩), (⟨#[99, 111, 110, 116, 101, 110, 116, 45, 114, 97, 110, 103, 101]⟩, ⟨#[98, 121, 116, 101, 115, 32, 48, 45, 55, 47, 56]⟩), (⟨#[99, 111, 110, 116, 101, 110, 116, 45, 108, 101, 110, 103, 116, 104]⟩, ⟨#[53]⟩), (⟨#[99, 111, 110, 116, 101, 110, 116, 45, 108, 101, 110, 103, 116, 104]⟩, ⟨#[56]⟩), (⟨#[120]⟩, s)]
theorem headsL_len (s : ByteArray) : (headsL s).length = 24 := rfl
def hat (s : ByteArray) (n : Int) : HRow := (headsL s).getD (within n 24).toNat (⟨#[]⟩, ⟨#[]⟩)
theorem hat_get (s : ByteArray) (n : Int) : (headsL s)[(within n 24).toNat]? = some (hat s n) := by
  have h := within_range n 24
  have h3 := h.2 (by decide)
  have h2 : (within n 24).toNat < (headsL s).length := by rw [headsL_len]; omega
  unfold hat
  rw [List.getD_eq_getElem?_getD, List.getElem?_eq_getElem h2]
  rfl
theorem hat_mem (s : ByteArray) (n : Int) : hat s n ∈ headsL s := List.mem_of_getElem? (hat_get s n)
theorem headsL_name (s : ByteArray) : ∀ r ∈ headsL s, r.1.size ≤ 20 := by
  intro r hr
  simp only [headsL, List.mem_cons, List.not_mem_nil, or_false] at hr
  rcases hr with rfl | rfl | rfl | rfl | rfl | rfl | rfl | rfl | rfl | rfl | rfl | rfl | rfl | rfl | rfl | rfl | rfl | rfl | rfl | rfl | rfl | rfl | rfl | rfl
  all_goals exact Nat.le_of_ble_eq_true rfl
theorem headsL_val (s : ByteArray) (k : Nat) (hs : s.size ≤ k) (hk : 40 ≤ k) : ∀ r ∈ headsL s, r.2.size ≤ k := by
  intro r hr
  simp only [headsL, List.mem_cons, List.not_mem_nil, or_false] at hr
  rcases hr with rfl | rfl | rfl | rfl | rfl | rfl | rfl | rfl | rfl | rfl | rfl | rfl | rfl | rfl | rfl | rfl | rfl | rfl | rfl | rfl | rfl | rfl | rfl | rfl
  all_goals first
    | exact hs
    | exact Nat.le_trans (Nat.le_of_ble_eq_true rfl : _ ≤ 40) hk
theorem bytesOf_len (n z : Int) : (bytesOf n z).length = z.toNat := by simp [bytesOf]
def codesL : List Int := [200, 200, 200, 206, 301, 302, 303, 307, 308, 404, 416, 429, 500, 503, 204, 100, 599, 400, 201, 416, 206]
def sizesL : List Int := [0, 5, 8, 3, 30, 49, 60]
def allowH : HRow := (⟨#[97, 108, 108, 111, 119, 45, 111, 114, 105, 103, 105, 110]⟩, ⟨#[42]⟩)
/-- An answer as the statements make them. -/
structure Made (s : ByteArray) (code : Int) (hs : List HRow) (body : ByteArray) : Prop where
  code : code ∈ codesL
  heads : ∀ r ∈ hs, r ∈ headsL ⟨#[]⟩ ∨ r = allowH
  few : hs.length ≤ 6
  body : body.size ≤ 60 ∨ body = s
theorem Made.hb {s : ByteArray} {code : Int} {hs : List HRow} {body : ByteArray} (h : Made s code hs body) : HB hs := by
  refine ⟨by have := h.few; omega, fun r hr => ?_⟩
  rcases h.heads r hr with h1 | rfl
  · have h2 := headsL_name _ r h1
    have h3 := headsL_val ⟨#[]⟩ 40 (by decide) (by decide) r h1
    omega
  · decide
set_option maxRecDepth 100000 in
set_option maxHeartbeats 4000000 in
theorem head_spec {w0 w : World} {I : Imm} {L : Own} (hst : St w0 w I L) (n : Int) (hn : i64ok n) (s : ByteArray) :
    Calls Tryd.prog 31 #[.int .i64 n, .string s] w fun e w' => ∃ I', Imm.le I I' ∧ e = .returned (.agg #[.string (hat s n).1, .string (hat s n).2]) ∧ St w0 w' I' L := by
  refine enter Tryd.func31 rfl (N := 39) rfl rfl ?_
  simp only [List.zipIdx_cons, List.zipIdx_nil, List.map_cons, List.map_nil, Nat.zero_add, Nat.reduceAdd]
  have hle := Imm.le.refl I
  refine CW.seq ?_
  -- region 0
  refine CW.region ?_
  refine RW.opE rfl (runs_alloc ti30 hst) ?_
  rintro _ w ⟨b1, rfl, hstn⟩
  clear hst
  have hst := hstn
  clear hstn
  refine RW.done ?_
  refine AQ.next ?_
  refine CW.seq ?_
  -- region 1
  refine CW.region ?_
  refine RW.op1 rfl (runs_buildF (cells := [_, _]) bz30 rfl rfl rfl rfl rfl) ?_
  refine RW.op1 rfl (runs_buildF (cells := [_, _]) bz30 rfl rfl rfl rfl rfl) ?_
  refine RW.op1 rfl (runs_buildF (cells := [_, _]) bz30 rfl rfl rfl rfl rfl) ?_
  refine RW.op1 rfl (runs_buildF (cells := [_, _]) bz30 rfl rfl rfl rfl rfl) ?_
  refine RW.op1 rfl (runs_buildF (cells := [_, _]) bz30 rfl rfl rfl rfl rfl) ?_
  refine RW.op1 rfl (runs_buildF (cells := [_, _]) bz30 rfl rfl rfl rfl rfl) ?_
  refine RW.op1 rfl (runs_buildF (cells := [_, _]) bz30 rfl rfl rfl rfl rfl) ?_
  refine RW.op1 rfl (runs_buildF (cells := [_, _]) bz30 rfl rfl rfl rfl rfl) ?_
  refine RW.op1 rfl (runs_buildF (cells := [_, _]) bz30 rfl rfl rfl rfl rfl) ?_
  refine RW.op1 rfl (runs_buildF (cells := [_, _]) bz30 rfl rfl rfl rfl rfl) ?_
  refine RW.op1 rfl (runs_buildF (cells := [_, _]) bz30 rfl rfl rfl rfl rfl) ?_
  refine RW.op1 rfl (runs_buildF (cells := [_, _]) bz30 rfl rfl rfl rfl rfl) ?_
  refine RW.op1 rfl (runs_buildF (cells := [_, _]) bz30 rfl rfl rfl rfl rfl) ?_
  refine RW.op1 rfl (runs_buildF (cells := [_, _]) bz30 rfl rfl rfl rfl rfl) ?_
  refine RW.op1 rfl (runs_buildF (cells := [_, _]) bz30 rfl rfl rfl rfl rfl) ?_
  refine RW.op1 rfl (runs_buildF (cells := [_, _]) bz30 rfl rfl rfl rfl rfl) ?_
  refine RW.op1 rfl (runs_buildF (cells := [_, _]) bz30 rfl rfl rfl rfl rfl) ?_
  refine RW.op1 rfl (runs_buildF (cells := [_, _]) bz30 rfl rfl rfl rfl rfl) ?_
  refine RW.op1 rfl (runs_buildF (cells := [_, _]) bz30 rfl rfl rfl rfl rfl) ?_
  refine RW.op1 rfl (runs_buildF (cells := [_, _]) bz30 rfl rfl rfl rfl rfl) ?_
  refine RW.op1 rfl (runs_buildF (cells := [_, _]) bz30 rfl rfl rfl rfl rfl) ?_
  refine RW.op1 rfl (runs_buildF (cells := [_, _]) bz30 rfl rfl rfl rfl rfl) ?_
  refine RW.op1 rfl (runs_buildF (cells := [_, _]) bz30 rfl rfl rfl rfl rfl) ?_
  refine RW.op1 rfl (runs_move rfl) ?_
  refine RW.op1 rfl (runs_buildF (cells := [_, _]) bz30 rfl rfl rfl rfl rfl) ?_
  refine RW.opE rfl (runs_litF (xs := [.agg #[_, _], .agg #[_, _], .agg #[_, _], .agg #[_, _], .agg #[_, _], .agg #[_, _], .agg #[_, _], .agg #[_, _], .agg #[_, _], .agg #[_, _], .agg #[_, _], .agg #[_, _], .agg #[_, _], .agg #[_, _], .agg #[_, _], .agg #[_, _], .agg #[_, _], .agg #[_, _], .agg #[_, _], .agg #[_, _], .agg #[_, _], .agg #[_, _], .agg #[_, _], .agg #[_, _]]) Tryd.underlying31 ti30 (by decide) rfl rfl rfl rfl rfl hst (by decide)) ?_
  rintro u2 w ⟨Lv2, hstn, hg2⟩
  clear hst
  have hst := hstn
  clear hstn
  obtain ⟨J2, hJ2, hstn, h2⟩ := Grow.freeze hg2 hst
  clear hst
  have hst := hstn
  clear hstn
  replace hle := hle.trans hJ2
  try simp only [List.nil_append] at h2
  replace h2 : RdH _ u2 (headsL s) := h2
  have hR := h2
  refine RW.op1 rfl (runs_assign rfl) ?_
  refine RW.done ?_
  refine AQ.next ?_
  refine CW.seq ?_
  -- region 2
  refine CW.region ?_
  refine RW.op1 rfl (runs_move rfl) ?_
  refine RW.op1 rfl (runs_move rfl) ?_
  refine RW.op1 rfl (runs_move rfl) ?_
  refine RW.op1 rfl (RdL.len Tryd.underlying31 rfl hR) ?_
  refine RW.call rfl call8 rfl rfl (within_spec hst (v := n) (n := 24) hn (by unfold i64ok; decide)) ?_
  rintro e w ⟨rfl, hstn⟩
  clear hst
  have hst := hstn
  clear hstn
  have hw := within_range n 24
  have hw2 := hw.2 (by decide)
  have hg := hat_get s n
  obtain ⟨k, hk⟩ : ∃ k : Nat, within n 24 = (k : Int) := ⟨(within n 24).toNat, by omega⟩
  rw [hk] at hg
  rw [show (((headsL s).length : Nat) : Int) = 24 from rfl, hk]
  refine ⟨_, rfl, ?_⟩
  refine RW.op1 rfl (RdL.indexAddr Tryd.underlying31 ti30 (by decide) rfl rfl hR (by show 0 ≤ (k : Int) ∧ (k : Int) < 24; omega)) ?_
  refine RW.op1 rfl (RdL.loadRow (row := hrow (hat s n)) ag30 ti30 rfl hR hst rfl (hrow_at hg)) ?_
  first
    | refine RW.opE0 (runs_storeW ti30 rfl rfl hst (k := 0) rfl rfl rfl (NoFz.zero _) rfl) ?_
    | refine RW.opE0 (runs_storeP ti30 rfl rfl hst (k := 0) rfl rfl rfl (NoFz.zero _) rfl) ?_
    | refine RW.opE0 (runs_storeW ti30 rfl rfl hst (k := 1) rfl rfl rfl (NoFz.zero _) rfl) ?_
    | refine RW.opE0 (runs_storeP ti30 rfl rfl hst (k := 1) rfl rfl rfl (NoFz.zero _) rfl) ?_
    | refine RW.opE0 (runs_storeW ti30 rfl rfl hst (k := 2) rfl rfl rfl (NoFz.zero _) rfl) ?_
    | refine RW.opE0 (runs_storeP ti30 rfl rfl hst (k := 2) rfl rfl rfl (NoFz.zero _) rfl) ?_
  rintro w hstn
  clear hst
  have hst := hstn
  clear hstn
  try simp only [List.set_cons_zero, List.set_cons_succ] at hst
  refine RW.done ?_
  refine AQ.next ?_
  refine CW.ret ?_
  refine AQ.retS rfl rfl (hst.loadN (vs := [_, _]) (k := 0) ag30 ti30 rfl rfl rfl) ?_
  exact ⟨_, hle, rfl, hst.drop1⟩
set_option maxRecDepth 100000 in
set_option maxHeartbeats 4000000 in
theorem reply_spec {w0 w : World} {I : Imm} {L : Own} (hst : St w0 w I L) (n : Int) (hn : i64ok n) {vl : Value} {ls : List Int} (hl : RdI I vl ls) (hls : ∀ x ∈ ls, i64ok x) (hll : ls.length ≤ 9223372036854775807) (s : ByteArray) :
    Calls Tryd.prog 15 #[.int .i64 n, vl, .string s] w fun e w' => ∃ I' vh code hs body, Imm.le I I' ∧ e = .returned (.agg #[.int .i64 code, vh, .string body, .bool false]) ∧ St w0 w' I' L ∧ RdH I' vh hs ∧ Made s code hs body := by
  refine enter Tryd.func15 rfl (N := 69) rfl rfl ?_
  simp only [List.zipIdx_cons, List.zipIdx_nil, List.map_cons, List.map_nil, Nat.zero_add, Nat.reduceAdd]
  have hle := Imm.le.refl I
  refine CW.seq ?_
  -- region 0
  refine CW.region ?_
  refine RW.opE rfl (runs_alloc ti40 hst) ?_
  rintro _ w ⟨b1, rfl, hstn⟩
  clear hst
  have hst := hstn
  clear hstn
  refine RW.done ?_
  refine AQ.next ?_
  refine CW.seq ?_
  -- region 1
  refine CW.region ?_
  refine RW.op1 rfl (runs_assign rfl) ?_
  refine RW.done ?_
  refine AQ.next ?_
  refine CW.seq ?_
  -- region 2
  refine CW.region ?_
  refine RW.opE rfl (runs_lit1R Tryd.underlying22 ti3 (by decide) rfl rfl rfl (by simp [Value.oneCell']) hst) ?_
  rintro u2 w ⟨I2, hI2, hstn, h2⟩
  clear hst
  have hst := hstn
  clear hstn
  replace hl := hl.mono hI2
  replace hle := hle.trans hI2
  have hC : RdI _ u2 codesL := h2
  refine RW.op1 rfl (runs_move rfl) ?_
  refine RW.op1 rfl (runs_move rfl) ?_
  refine RW.call rfl call8 rfl rfl (within_spec hst (v := n) (n := 21) (hn) (by unfold i64ok; decide)) ?_
  rintro e w ⟨rfl, hstn⟩
  clear hst
  have hst := hstn
  clear hstn
  refine ⟨_, rfl, ?_⟩
  refine RW.op1 rfl (RdL.indexAddr Tryd.underlying22 ti3 (by decide) rfl rfl hC (by show 0 ≤ within n 21 ∧ within n 21 < 21; exact ⟨(within_range n 21).1, (within_range n 21).2 (by decide)⟩)) ?_
  refine RW.op1 rfl (runs_load1 sc3 rfl (hst.cell_imm (RdI.at hC (within_range n 21).1 ((within_range n 21).2 (by decide))))) ?_
  refine RW.op1 rfl (runs_buildF (cells := [_, _, _, _]) bz40 rfl rfl rfl rfl rfl) ?_
  refine RW.opE rfl (runs_alloc ti40 hst) ?_
  rintro _ w ⟨b4, rfl, hstn⟩
  clear hst
  have hst := hstn
  clear hstn
  first
    | refine RW.opE0 (runs_storeW ti40 rfl rfl hst (k := 0) rfl rfl rfl (NoFz.zero _) rfl) ?_
    | refine RW.opE0 (runs_storeP ti40 rfl rfl hst (k := 0) rfl rfl rfl (NoFz.zero _) rfl) ?_
    | refine RW.opE0 (runs_storeW ti40 rfl rfl hst (k := 1) rfl rfl rfl (NoFz.zero _) rfl) ?_
    | refine RW.opE0 (runs_storeP ti40 rfl rfl hst (k := 1) rfl rfl rfl (NoFz.zero _) rfl) ?_
    | refine RW.opE0 (runs_storeW ti40 rfl rfl hst (k := 2) rfl rfl rfl (NoFz.zero _) rfl) ?_
    | refine RW.opE0 (runs_storeP ti40 rfl rfl hst (k := 2) rfl rfl rfl (NoFz.zero _) rfl) ?_
  rintro w hstn
  clear hst
  have hst := hstn
  clear hstn
  try simp only [List.set_cons_zero, List.set_cons_succ] at hst
  have hcm := iat_mem (l := codesL) (within_range n 21).1 ((within_range n 21).2 (by decide))
  generalize iat codesL (within n 21) = code at hcm hst ⊢
  refine RW.done ?_
  refine AQ.next ?_
  refine CW.seq ?_
  refine CW.seq ?_
  -- region 3
  refine CW.region ?_
  refine RW.op1 rfl (runs_assign rfl) ?_
  refine RW.done ?_
  refine AQ.next ?_
  refine CW.block ?_
  -- loop 1
  refine CW.loop (Nat × Imm × Value × Own × List HRow) (fun x w => I.le x.2.1 ∧ St w0 w x.2.1 ((b4, Obj.cells (Value.agg #[.int .i64 (code), x.2.2.1, .string ⟨#[]⟩, .bool false]).cells 40) :: (b1, Obj.cells (Value.agg #[.int .i64 0, .slice none 0 0, .string ⟨#[]⟩, .bool false]).cells 40) :: (x.2.2.2.1 ++ L)) ∧ RdI x.2.1 vl ls ∧ Grow 30 2 x.2.2.1 x.2.2.2.2.length (x.2.2.2.2.flatMap hrow) x.2.2.2.1 ∧ x.2.2.2.2.length = x.1 ∧ x.1 ≤ 5 ∧ ∀ r ∈ x.2.2.2.2, r ∈ headsL ⟨#[]⟩) (fun x => [(0, .int .i64 n), (2, .string s), (6, .pointer (some ⟨b1, 0, none⟩)), (7, .func (.func 8) #[] #[]), (8, .pointer (some ⟨b4, 0, none⟩)), (1, vl), (9, .int .i64 (x.1 : Int))]) (fun x => 6 - x.1) ⟨(0, _, _, [], []), ⟨hle, hst, hl, Grow.nil _ _, rfl, Nat.zero_le _, by simp⟩, ⟨rfl, rfl, rfl, rfl, rfl, rfl, rfl, trivial⟩⟩ ?_
  clear hle hl
  rintro ⟨k, I5, v5, Lv5, hs⟩ w ⟨hle, hstn, hl, hg5, hk, hk5, hhs⟩
  dsimp only at hle hstn hl hg5 hk hk5 hhs ⊢
  clear hst
  have hst := hstn
  clear hstn
  refine CW.seq ?_
  refine CW.seq ?_
  -- region 4
  refine CW.cut Int (fun y w => St w0 w I5 ((b4, Obj.cells (Value.agg #[.int .i64 (code), v5, .string ⟨#[]⟩, .bool false]).cells 40) :: (b1, Obj.cells (Value.agg #[.int .i64 0, .slice none 0 0, .string ⟨#[]⟩, .bool false]).cells 40) :: (Lv5 ++ L)) ∧ 0 ≤ y ∧ y < 6) (fun y => [(0, .int .i64 n), (2, .string s), (6, .pointer (some ⟨b1, 0, none⟩)), (7, .func (.func 8) #[] #[]), (8, .pointer (some ⟨b4, 0, none⟩)), (1, vl), (9, .int .i64 (k : Int)), (28, .bool (decide ((k : Int) < ls.length ∧ (k : Int) < y)))]) ?_ ?_
  · -- region 4
    refine CW.region ?_
    refine RW.op1 rfl (runs_move rfl) ?_
    refine RW.op1 rfl (runs_move rfl) ?_
    refine RW.op1 rfl (RdL.len Tryd.underlying22 rfl hl) ?_
    refine RW.op1 rfl (runs_lss rfl rfl) ?_
    refine RW.op1 rfl (runs_move rfl) ?_
    refine RW.split (t := 21) rfl (fun hb21 => ?_) (fun hb21 => ?_)
    · have hb21p := hb21
      try simp only [decide_eq_true_eq, decide_eq_false_iff_not] at hb21p
      refine RW.on_guard rfl rfl rfl rfl hb21 ?_
      refine RW.op1 rfl (runs_move rfl) ?_
      refine RW.on_guard rfl rfl rfl rfl hb21 ?_
      refine RW.op1 rfl (runs_move rfl) ?_
      refine RW.on_guard rfl rfl rfl rfl hb21 ?_
      refine RW.op1 rfl (runs_move rfl) ?_
      refine RW.on_guard rfl rfl rfl rfl hb21 ?_
      refine RW.op1 rfl (runs_quo rfl rfl (by decide)) ?_
      obtain ⟨qA, hqA⟩ : ∃ q, IntKind.i64.wrap (n.tdiv 21) = q := ⟨_, rfl⟩
      have hqoA : i64ok qA := by rw [← hqA]; exact wrap_ok _
      rw [hqA]
      refine RW.on_guard rfl rfl rfl rfl hb21 ?_
      refine RW.call rfl call8 rfl rfl (within_spec hst (v := qA) (n := 6) (hqoA) (by unfold i64ok; decide)) ?_
      rintro e w ⟨rfl, hstn⟩
      clear hst
      have hst := hstn
      clear hstn
      refine ⟨_, rfl, ?_⟩
      refine RW.on_guard rfl rfl rfl rfl hb21 ?_
      refine RW.op1 rfl (runs_lss rfl rfl) ?_
      refine RW.op1 rfl (runs_pick_true rfl hb21 rfl) ?_
      refine RW.done ?_
      first
        | exact AQ.meet (within qA 6) ⟨hst, (within_range qA 6).1, (within_range qA 6).2 (by decide)⟩ ⟨rfl, rfl, rfl, rfl, rfl, rfl, rfl, boolN (by simp only [decide_eq_true_eq]; omega), trivial⟩
        | exact AQ.meet 0 ⟨hst, by decide, by decide⟩ ⟨rfl, rfl, rfl, rfl, rfl, rfl, rfl, boolN (by simp <;> omega), trivial⟩
    · have hb21p := hb21
      try simp only [decide_eq_true_eq, decide_eq_false_iff_not] at hb21p
      refine RW.off_guard rfl rfl rfl rfl hb21 ?_
      refine RW.off_guard rfl rfl rfl rfl hb21 ?_
      refine RW.off_guard rfl rfl rfl rfl hb21 ?_
      refine RW.off_guard rfl rfl rfl rfl hb21 ?_
      refine RW.off_guard rfl rfl rfl rfl hb21 ?_
      refine RW.off_guard rfl rfl rfl rfl hb21 ?_
      refine RW.op1 rfl (runs_pick_false rfl hb21 rfl) ?_
      refine RW.done ?_
      first
        | exact AQ.meet (within qA 6) ⟨hst, (within_range qA 6).1, (within_range qA 6).2 (by decide)⟩ ⟨rfl, rfl, rfl, rfl, rfl, rfl, rfl, boolN (by simp only [decide_eq_true_eq]; omega), trivial⟩
        | exact AQ.meet 0 ⟨hst, by decide, by decide⟩ ⟨rfl, rfl, rfl, rfl, rfl, rfl, rfl, boolN (by simp <;> omega), trivial⟩
  · rintro y w ⟨hstn, hy0, hy6⟩
    clear hst
    have hst := hstn
    clear hstn
    refine AQ.next ?_
    refine CW.cond rfl (fun hc28 => ?_) (fun hc28 => ?_)
    · have hcb28 := hc28
      try simp only [decide_eq_true_eq, decide_eq_false_iff_not] at hc28
      have hc28' : (k : Int) < ls.length ∧ (k : Int) < y := by simpa using hc28
      have hiok : i64ok (iat ls (k : Int)) := by rw [iat_get (by omega)]; exact hls _ (List.getElem_mem _)
      refine CW.skip ?_
      refine AQ.next ?_
      refine CW.seq ?_
      refine CW.block ?_
      -- region 6
      refine CW.draw (FSt w0 I5 L) (.q 0 (.q 2 (.q 3 (.q 4 (.q 5 (.fork (.l 1 (.l 6 (.l 7 (.l 8 (.q 9 (.l 10 .nil)))))) (.l 6 (.fork (.l 1 (.l 7 (.l 8 (.q 9 (.l 10 .nil))))) (.l 7 (.l 1 (.l 8 (.q 9 (.l 10 .nil))))))))))))) follows (by kernel_rfl) ⟨_, Imm.le.refl _, hst.draw.sub ((List.sublist_append_right _ _).trans ((List.sublist_cons_self _ _).trans (List.sublist_cons_self _ _)))⟩ ?_
      replace hst := hst.draw
      first
        | refine DRW.q rfl rfl (fun w' hF => runs_fieldAddr0 rfl Tryd.underlying40 rfl ti31 (by decide)) ?_
        | refine DRW.q rfl rfl (fun w' hF => runs_fieldAddr rfl Tryd.underlying40 rfl ti31 (by decide)) ?_
      refine DRW.q rfl rfl (fun w' hF => runs_move rfl) ?_
      refine DRW.q rfl rfl (fun w' hF => runs_move rfl) ?_
      refine DRW.q rfl rfl (fun w' hF => RdL.indexAddr Tryd.underlying22 ti3 (by decide) rfl rfl hl (by omega)) ?_
      refine DRW.q rfl rfl (FSt.load1 sc3 rfl (RdI.at hl (by omega) (by omega))) ?_
      refine DRW.fork ?_ ?_
      · first
          | refine DRW.op1 rfl rfl (runs_load1 sc31 rfl (hst.cell_own (k := 0) rfl rfl)) (FSt.of hst (Imm.le.refl _) (by first | exact (List.sublist_append_right _ _).trans ((List.sublist_cons_self _ _).trans (List.sublist_cons_self _ _)) | exact ((List.sublist_append_right _ _).trans ((List.sublist_cons_self _ _).trans (List.sublist_cons_self _ _))).trans (List.sublist_append_right _ _))) ?_
          | refine DRW.op1 rfl rfl (runs_load1 sc31 rfl (hst.cell_own (k := 1) rfl rfl)) (FSt.of hst (Imm.le.refl _) (by first | exact (List.sublist_append_right _ _).trans ((List.sublist_cons_self _ _).trans (List.sublist_cons_self _ _)) | exact ((List.sublist_append_right _ _).trans ((List.sublist_cons_self _ _).trans (List.sublist_cons_self _ _))).trans (List.sublist_append_right _ _))) ?_
          | refine DRW.op1 rfl rfl (runs_load1 sc31 rfl (hst.cell_own (k := 2) rfl rfl)) (FSt.of hst (Imm.le.refl _) (by first | exact (List.sublist_append_right _ _).trans ((List.sublist_cons_self _ _).trans (List.sublist_cons_self _ _)) | exact ((List.sublist_append_right _ _).trans ((List.sublist_cons_self _ _).trans (List.sublist_cons_self _ _))).trans (List.sublist_append_right _ _))) ?_
        refine DRW.call rfl rfl call31 rfl rfl (head_spec hst (iat ls (k : Int)) hiok ⟨#[]⟩) ?_
        rintro e w ⟨I7, hI7, rfl, hstn⟩
        clear hst
        have hst := hstn
        clear hstn
        replace hl := hl.mono hI7
        replace hle := hle.trans hI7
        refine ⟨_, rfl, FSt.of hst hI7 (by first | exact (List.sublist_append_right _ _).trans ((List.sublist_cons_self _ _).trans (List.sublist_cons_self _ _)) | exact ((List.sublist_append_right _ _).trans ((List.sublist_cons_self _ _).trans (List.sublist_cons_self _ _))).trans (List.sublist_append_right _ _)), ?_⟩
        refine DRW.opE rfl rfl (runs_litF (xs := [.agg #[_, _]]) Tryd.underlying31 ti30 (by decide) rfl rfl rfl rfl rfl hst (by decide)) ?_
        rintro u8 w ⟨Lv8, hstn, hg8⟩
        clear hst
        have hst := hstn
        clear hstn
        refine ⟨FSt.of hst hI7 (by first | exact (List.sublist_append_right _ _).trans ((List.sublist_cons_self _ _).trans (List.sublist_cons_self _ _)) | exact ((List.sublist_append_right _ _).trans ((List.sublist_cons_self _ _).trans (List.sublist_cons_self _ _))).trans (List.sublist_append_right _ _)), ?_⟩
        obtain ⟨J8, hJ8, hstn, h8⟩ := Grow.freeze hg8 hst
        clear hst
        have hst := hstn
        clear hstn
        replace hl := hl.mono hJ8
        replace hle := hle.trans hJ8
        try simp only [List.nil_append] at h8
        replace h8 : RdL _ 2 u8 1 (hrow (hat ⟨#[]⟩ (iat ls (k : Int)))) := h8
        have hR := h8
        refine DRW.opE rfl rfl (runs_appendRA [_, _] Tryd.underlying31 ti30 rfl (by decide) rfl rfl hst hg5 hR (by omega) (by unfold maxLen; omega)) ?_
        rintro u9 w ⟨Lv9, hstn, hg9⟩
        clear hst
        have hst := hstn
        clear hstn
        refine ⟨FSt.of hst (hI7.trans hJ8) (by first | exact (List.sublist_append_right _ _).trans ((List.sublist_cons_self _ _).trans (List.sublist_cons_self _ _)) | exact ((List.sublist_append_right _ _).trans ((List.sublist_cons_self _ _).trans (List.sublist_cons_self _ _))).trans (List.sublist_append_right _ _)), ?_⟩
        have hgN : Grow 30 2 u9 (hs ++ [hat ⟨#[]⟩ (iat ls (k : Int))]).length ((hs ++ [hat ⟨#[]⟩ (iat ls (k : Int))]).flatMap hrow) Lv9 := by
          rw [List.length_append, List.flatMap_append]
          exact hg9
        replace hst : St w0 _ _ ((b4, Obj.cells (Value.agg #[.int .i64 (code), v5, .string ⟨#[]⟩, .bool false]).cells 40) :: (b1, Obj.cells (Value.agg #[.int .i64 0, .slice none 0 0, .string ⟨#[]⟩, .bool false]).cells 40) :: (Lv9 ++ L)) := hst
        first
          | refine DRW.q rfl rfl (fun w' hF => runs_fieldAddr0 rfl Tryd.underlying40 rfl ti31 (by decide)) ?_
          | refine DRW.q rfl rfl (fun w' hF => runs_fieldAddr rfl Tryd.underlying40 rfl ti31 (by decide)) ?_
        refine DRW.opE0 rfl (runs_store1P ti31 rfl rfl hst (k := 0) rfl rfl (NoFz.zero _) hgN.one) ?_
        rintro w hstn
        clear hst
        have hst := hstn
        clear hstn
        try simp only [List.set_cons_zero, List.set_cons_succ] at hst
        refine ⟨FSt.of hst (hI7.trans hJ8) (by first | exact (List.sublist_append_right _ _).trans ((List.sublist_cons_self _ _).trans (List.sublist_cons_self _ _)) | exact ((List.sublist_append_right _ _).trans ((List.sublist_cons_self _ _).trans (List.sublist_cons_self _ _))).trans (List.sublist_append_right _ _)), ?_⟩
        refine DRW.done ?_
        refine AQ.block_normal ?_
        refine AQ.next ?_
        -- region 5
        refine CW.region ?_
        refine RW.op1 rfl (runs_move rfl) ?_
        refine RW.op1 rfl (runs_add rfl rfl (by omega)) ?_
        refine RW.op1 rfl (runs_assign rfl) ?_
        refine RW.done ?_
        exact AQ.again (x := (k, I5, v5, Lv5, hs)) (k + 1, _, _, _, hs ++ [hat ⟨#[]⟩ (iat ls (k : Int))]) ⟨hle, hst, hl, hgN, by simp [hk], by omega, by
          intro r hr
          rcases List.mem_append.1 hr with h | h
          · exact hhs r h
          · rw [List.mem_singleton.1 h]; exact hat_mem _ _⟩ ⟨rfl, rfl, rfl, rfl, rfl, rfl, rfl, trivial⟩ (by dsimp only; omega)
      refine DRW.call rfl rfl call31 rfl rfl (head_spec hst (iat ls (k : Int)) hiok ⟨#[]⟩) ?_
      rintro e w ⟨I11, hI11, rfl, hstn⟩
      clear hst
      have hst := hstn
      clear hstn
      replace hl := hl.mono hI11
      replace hle := hle.trans hI11
      refine ⟨_, rfl, FSt.of hst hI11 (by first | exact (List.sublist_append_right _ _).trans ((List.sublist_cons_self _ _).trans (List.sublist_cons_self _ _)) | exact ((List.sublist_append_right _ _).trans ((List.sublist_cons_self _ _).trans (List.sublist_cons_self _ _))).trans (List.sublist_append_right _ _)), ?_⟩
      refine DRW.fork ?_ ?_
      · first
          | refine DRW.op1 rfl rfl (runs_load1 sc31 rfl (hst.cell_own (k := 0) rfl rfl)) (FSt.of hst hI11 (by first | exact (List.sublist_append_right _ _).trans ((List.sublist_cons_self _ _).trans (List.sublist_cons_self _ _)) | exact ((List.sublist_append_right _ _).trans ((List.sublist_cons_self _ _).trans (List.sublist_cons_self _ _))).trans (List.sublist_append_right _ _))) ?_
          | refine DRW.op1 rfl rfl (runs_load1 sc31 rfl (hst.cell_own (k := 1) rfl rfl)) (FSt.of hst hI11 (by first | exact (List.sublist_append_right _ _).trans ((List.sublist_cons_self _ _).trans (List.sublist_cons_self _ _)) | exact ((List.sublist_append_right _ _).trans ((List.sublist_cons_self _ _).trans (List.sublist_cons_self _ _))).trans (List.sublist_append_right _ _))) ?_
          | refine DRW.op1 rfl rfl (runs_load1 sc31 rfl (hst.cell_own (k := 2) rfl rfl)) (FSt.of hst hI11 (by first | exact (List.sublist_append_right _ _).trans ((List.sublist_cons_self _ _).trans (List.sublist_cons_self _ _)) | exact ((List.sublist_append_right _ _).trans ((List.sublist_cons_self _ _).trans (List.sublist_cons_self _ _))).trans (List.sublist_append_right _ _))) ?_
        refine DRW.opE rfl rfl (runs_litF (xs := [.agg #[_, _]]) Tryd.underlying31 ti30 (by decide) rfl rfl rfl rfl rfl hst (by decide)) ?_
        rintro u12 w ⟨Lv12, hstn, hg12⟩
        clear hst
        have hst := hstn
        clear hstn
        refine ⟨FSt.of hst hI11 (by first | exact (List.sublist_append_right _ _).trans ((List.sublist_cons_self _ _).trans (List.sublist_cons_self _ _)) | exact ((List.sublist_append_right _ _).trans ((List.sublist_cons_self _ _).trans (List.sublist_cons_self _ _))).trans (List.sublist_append_right _ _)), ?_⟩
        obtain ⟨J12, hJ12, hstn, h12⟩ := Grow.freeze hg12 hst
        clear hst
        have hst := hstn
        clear hstn
        replace hl := hl.mono hJ12
        replace hle := hle.trans hJ12
        try simp only [List.nil_append] at h12
        replace h12 : RdL _ 2 u12 1 (hrow (hat ⟨#[]⟩ (iat ls (k : Int)))) := h12
        have hR := h12
        refine DRW.opE rfl rfl (runs_appendRA [_, _] Tryd.underlying31 ti30 rfl (by decide) rfl rfl hst hg5 hR (by omega) (by unfold maxLen; omega)) ?_
        rintro u13 w ⟨Lv13, hstn, hg13⟩
        clear hst
        have hst := hstn
        clear hstn
        refine ⟨FSt.of hst (hI11.trans hJ12) (by first | exact (List.sublist_append_right _ _).trans ((List.sublist_cons_self _ _).trans (List.sublist_cons_self _ _)) | exact ((List.sublist_append_right _ _).trans ((List.sublist_cons_self _ _).trans (List.sublist_cons_self _ _))).trans (List.sublist_append_right _ _)), ?_⟩
        have hgN : Grow 30 2 u13 (hs ++ [hat ⟨#[]⟩ (iat ls (k : Int))]).length ((hs ++ [hat ⟨#[]⟩ (iat ls (k : Int))]).flatMap hrow) Lv13 := by
          rw [List.length_append, List.flatMap_append]
          exact hg13
        replace hst : St w0 _ _ ((b4, Obj.cells (Value.agg #[.int .i64 (code), v5, .string ⟨#[]⟩, .bool false]).cells 40) :: (b1, Obj.cells (Value.agg #[.int .i64 0, .slice none 0 0, .string ⟨#[]⟩, .bool false]).cells 40) :: (Lv13 ++ L)) := hst
        first
          | refine DRW.q rfl rfl (fun w' hF => runs_fieldAddr0 rfl Tryd.underlying40 rfl ti31 (by decide)) ?_
          | refine DRW.q rfl rfl (fun w' hF => runs_fieldAddr rfl Tryd.underlying40 rfl ti31 (by decide)) ?_
        refine DRW.opE0 rfl (runs_store1P ti31 rfl rfl hst (k := 0) rfl rfl (NoFz.zero _) hgN.one) ?_
        rintro w hstn
        clear hst
        have hst := hstn
        clear hstn
        try simp only [List.set_cons_zero, List.set_cons_succ] at hst
        refine ⟨FSt.of hst (hI11.trans hJ12) (by first | exact (List.sublist_append_right _ _).trans ((List.sublist_cons_self _ _).trans (List.sublist_cons_self _ _)) | exact ((List.sublist_append_right _ _).trans ((List.sublist_cons_self _ _).trans (List.sublist_cons_self _ _))).trans (List.sublist_append_right _ _)), ?_⟩
        refine DRW.done ?_
        refine AQ.block_normal ?_
        refine AQ.next ?_
        -- region 5
        refine CW.region ?_
        refine RW.op1 rfl (runs_move rfl) ?_
        refine RW.op1 rfl (runs_add rfl rfl (by omega)) ?_
        refine RW.op1 rfl (runs_assign rfl) ?_
        refine RW.done ?_
        exact AQ.again (x := (k, I5, v5, Lv5, hs)) (k + 1, _, _, _, hs ++ [hat ⟨#[]⟩ (iat ls (k : Int))]) ⟨hle, hst, hl, hgN, by simp [hk], by omega, by
          intro r hr
          rcases List.mem_append.1 hr with h | h
          · exact hhs r h
          · rw [List.mem_singleton.1 h]; exact hat_mem _ _⟩ ⟨rfl, rfl, rfl, rfl, rfl, rfl, rfl, trivial⟩ (by dsimp only; omega)
      refine DRW.opE rfl rfl (runs_litF (xs := [.agg #[_, _]]) Tryd.underlying31 ti30 (by decide) rfl rfl rfl rfl rfl hst (by decide)) ?_
      rintro u15 w ⟨Lv15, hstn, hg15⟩
      clear hst
      have hst := hstn
      clear hstn
      refine ⟨FSt.of hst hI11 (by first | exact (List.sublist_append_right _ _).trans ((List.sublist_cons_self _ _).trans (List.sublist_cons_self _ _)) | exact ((List.sublist_append_right _ _).trans ((List.sublist_cons_self _ _).trans (List.sublist_cons_self _ _))).trans (List.sublist_append_right _ _)), ?_⟩
      obtain ⟨J15, hJ15, hstn, h15⟩ := Grow.freeze hg15 hst
      clear hst
      have hst := hstn
      clear hstn
      replace hl := hl.mono hJ15
      replace hle := hle.trans hJ15
      try simp only [List.nil_append] at h15
      replace h15 : RdL _ 2 u15 1 (hrow (hat ⟨#[]⟩ (iat ls (k : Int)))) := h15
      have hR := h15
      first
        | refine DRW.op1 rfl rfl (runs_load1 sc31 rfl (hst.cell_own (k := 0) rfl rfl)) (FSt.of hst (hI11.trans hJ15) (by first | exact (List.sublist_append_right _ _).trans ((List.sublist_cons_self _ _).trans (List.sublist_cons_self _ _)) | exact ((List.sublist_append_right _ _).trans ((List.sublist_cons_self _ _).trans (List.sublist_cons_self _ _))).trans (List.sublist_append_right _ _))) ?_
        | refine DRW.op1 rfl rfl (runs_load1 sc31 rfl (hst.cell_own (k := 1) rfl rfl)) (FSt.of hst (hI11.trans hJ15) (by first | exact (List.sublist_append_right _ _).trans ((List.sublist_cons_self _ _).trans (List.sublist_cons_self _ _)) | exact ((List.sublist_append_right _ _).trans ((List.sublist_cons_self _ _).trans (List.sublist_cons_self _ _))).trans (List.sublist_append_right _ _))) ?_
        | refine DRW.op1 rfl rfl (runs_load1 sc31 rfl (hst.cell_own (k := 2) rfl rfl)) (FSt.of hst (hI11.trans hJ15) (by first | exact (List.sublist_append_right _ _).trans ((List.sublist_cons_self _ _).trans (List.sublist_cons_self _ _)) | exact ((List.sublist_append_right _ _).trans ((List.sublist_cons_self _ _).trans (List.sublist_cons_self _ _))).trans (List.sublist_append_right _ _))) ?_
      refine DRW.opE rfl rfl (runs_appendRA [_, _] Tryd.underlying31 ti30 rfl (by decide) rfl rfl hst hg5 hR (by omega) (by unfold maxLen; omega)) ?_
      rintro u16 w ⟨Lv16, hstn, hg16⟩
      clear hst
      have hst := hstn
      clear hstn
      refine ⟨FSt.of hst (hI11.trans hJ15) (by first | exact (List.sublist_append_right _ _).trans ((List.sublist_cons_self _ _).trans (List.sublist_cons_self _ _)) | exact ((List.sublist_append_right _ _).trans ((List.sublist_cons_self _ _).trans (List.sublist_cons_self _ _))).trans (List.sublist_append_right _ _)), ?_⟩
      have hgN : Grow 30 2 u16 (hs ++ [hat ⟨#[]⟩ (iat ls (k : Int))]).length ((hs ++ [hat ⟨#[]⟩ (iat ls (k : Int))]).flatMap hrow) Lv16 := by
        rw [List.length_append, List.flatMap_append]
        exact hg16
      replace hst : St w0 _ _ ((b4, Obj.cells (Value.agg #[.int .i64 (code), v5, .string ⟨#[]⟩, .bool false]).cells 40) :: (b1, Obj.cells (Value.agg #[.int .i64 0, .slice none 0 0, .string ⟨#[]⟩, .bool false]).cells 40) :: (Lv16 ++ L)) := hst
      first
        | refine DRW.q rfl rfl (fun w' hF => runs_fieldAddr0 rfl Tryd.underlying40 rfl ti31 (by decide)) ?_
        | refine DRW.q rfl rfl (fun w' hF => runs_fieldAddr rfl Tryd.underlying40 rfl ti31 (by decide)) ?_
      refine DRW.opE0 rfl (runs_store1P ti31 rfl rfl hst (k := 0) rfl rfl (NoFz.zero _) hgN.one) ?_
      rintro w hstn
      clear hst
      have hst := hstn
      clear hstn
      try simp only [List.set_cons_zero, List.set_cons_succ] at hst
      refine ⟨FSt.of hst (hI11.trans hJ15) (by first | exact (List.sublist_append_right _ _).trans ((List.sublist_cons_self _ _).trans (List.sublist_cons_self _ _)) | exact ((List.sublist_append_right _ _).trans ((List.sublist_cons_self _ _).trans (List.sublist_cons_self _ _))).trans (List.sublist_append_right _ _)), ?_⟩
      refine DRW.done ?_
      refine AQ.block_normal ?_
      refine AQ.next ?_
      -- region 5
      refine CW.region ?_
      refine RW.op1 rfl (runs_move rfl) ?_
      refine RW.op1 rfl (runs_add rfl rfl (by omega)) ?_
      refine RW.op1 rfl (runs_assign rfl) ?_
      refine RW.done ?_
      exact AQ.again (x := (k, I5, v5, Lv5, hs)) (k + 1, _, _, _, hs ++ [hat ⟨#[]⟩ (iat ls (k : Int))]) ⟨hle, hst, hl, hgN, by simp [hk], by omega, by
        intro r hr
        rcases List.mem_append.1 hr with h | h
        · exact hhs r h
        · rw [List.mem_singleton.1 h]; exact hat_mem _ _⟩ ⟨rfl, rfl, rfl, rfl, rfl, rfl, rfl, trivial⟩ (by dsimp only; omega)
    · have hcb28 := hc28
      try simp only [decide_eq_true_eq, decide_eq_false_iff_not] at hc28
      skip
      refine CW.exit ?_
      refine AQ.past_exit ?_
      refine AQ.past_exit ?_
      refine AQ.block_hit ?_
      refine AQ.next ?_
      refine CW.seq ?_
      refine CW.seq ?_
      -- region 7
      refine CW.region ?_
      refine RW.op1 rfl (runs_move rfl) ?_
      refine RW.op1 rfl (runs_move rfl) ?_
      refine RW.op1 rfl (runs_quo rfl rfl (by decide)) ?_
      obtain ⟨qB, hqB⟩ : ∃ q, IntKind.i64.wrap (n.tdiv 7) = q := ⟨_, rfl⟩
      have hqoB : i64ok qB := by rw [← hqB]; exact wrap_ok _
      rw [hqB]
      refine RW.call rfl call8 rfl rfl (within_spec hst (v := qB) (n := 3) (hqoB) (by unfold i64ok; decide)) ?_
      rintro e w ⟨rfl, hstn⟩
      clear hst
      have hst := hstn
      clear hstn
      refine ⟨_, rfl, ?_⟩
      refine RW.op1 rfl (runs_gtr rfl rfl) ?_
      refine RW.done ?_
      refine AQ.next ?_
      refine CW.cut (Imm × Value × Own × List HRow) (fun x w => I.le x.1 ∧ St w0 w x.1 ((b1, Obj.cells (Value.agg #[.int .i64 0, .slice none 0 0, .string ⟨#[]⟩, .bool false]).cells 40) :: (b4, Obj.cells (Value.agg #[.int .i64 (code), x.2.1, .string ⟨#[]⟩, .bool false]).cells 40) :: (x.2.2.1 ++ L)) ∧ Grow 30 2 x.2.1 x.2.2.2.length (x.2.2.2.flatMap hrow) x.2.2.1 ∧ x.2.2.2.length ≤ 6 ∧ ∀ r ∈ x.2.2.2, r ∈ headsL ⟨#[]⟩ ∨ r = allowH) (fun x => [(0, .int .i64 n), (2, .string s), (6, .pointer (some ⟨b1, 0, none⟩)), (7, .func (.func 8) #[] #[]), (8, .pointer (some ⟨b4, 0, none⟩))]) ?_ ?_
      · refine CW.cond rfl (fun hc45 => ?_) (fun hc45 => ?_)
        · have hcb45 := hc45
          try simp only [decide_eq_true_eq, decide_eq_false_iff_not] at hc45
          -- region 8
          refine CW.region ?_
          first
            | refine RW.op1 rfl (runs_fieldAddr0 rfl Tryd.underlying40 rfl ti31 (by decide)) ?_
            | refine RW.op1 rfl (runs_fieldAddr rfl Tryd.underlying40 rfl ti31 (by decide)) ?_
          first
            | refine RW.op1 rfl (runs_load1 sc31 rfl (hst.cell_own (k := 0) rfl rfl)) ?_
            | refine RW.op1 rfl (runs_load1 sc31 rfl (hst.cell_own (k := 1) rfl rfl)) ?_
            | refine RW.op1 rfl (runs_load1 sc31 rfl (hst.cell_own (k := 2) rfl rfl)) ?_
          refine RW.op1 rfl (runs_buildF (cells := [_, _]) bz30 rfl rfl rfl rfl rfl) ?_
          refine RW.opE rfl (runs_litF (xs := [.agg #[_, _]]) Tryd.underlying31 ti30 (by decide) rfl rfl rfl rfl rfl hst (by decide)) ?_
          rintro u19 w ⟨Lv19, hstn, hg19⟩
          clear hst
          have hst := hstn
          clear hstn
          obtain ⟨J19, hJ19, hstn, h19⟩ := Grow.freeze hg19 hst
          clear hst
          have hst := hstn
          clear hstn
          replace hle := hle.trans hJ19
          try simp only [List.nil_append] at h19
          replace h19 : RdL _ 2 u19 1 (hrow allowH) := h19
          have hR8 := h19
          refine RW.opE rfl (runs_appendRA [_, _] Tryd.underlying31 ti30 rfl (by decide) rfl rfl hst hg5 hR8 (by omega) (by unfold maxLen; omega)) ?_
          rintro u20 w ⟨Lv20, hstn, hg20⟩
          clear hst
          have hst := hstn
          clear hstn
          have hgN8 : Grow 30 2 u20 (hs ++ [allowH]).length ((hs ++ [allowH]).flatMap hrow) Lv20 := by
            rw [List.length_append, List.flatMap_append]
            exact hg20
          replace hst : St w0 _ _ ((b4, Obj.cells (Value.agg #[.int .i64 (code), v5, .string ⟨#[]⟩, .bool false]).cells 40) :: (b1, Obj.cells (Value.agg #[.int .i64 0, .slice none 0 0, .string ⟨#[]⟩, .bool false]).cells 40) :: (Lv20 ++ L)) := hst
          first
            | refine RW.op1 rfl (runs_fieldAddr0 rfl Tryd.underlying40 rfl ti31 (by decide)) ?_
            | refine RW.op1 rfl (runs_fieldAddr rfl Tryd.underlying40 rfl ti31 (by decide)) ?_
          refine RW.opE0 (runs_store1P ti31 rfl rfl hst (k := 0) rfl rfl (NoFz.zero _) hgN8.one) ?_
          rintro w hstn
          clear hst
          have hst := hstn
          clear hstn
          try simp only [List.set_cons_zero, List.set_cons_succ] at hst
          refine RW.done ?_
          first
            | exact AQ.meet (_, _, _, hs ++ [allowH]) ⟨hle, hst.perm (List.Perm.swap _ _ _), hgN8, by simp; omega, by
                intro r hr
                rcases List.mem_append.1 hr with h | h
                · exact .inl (hhs r h)
                · exact .inr (List.mem_singleton.1 h)⟩ ⟨rfl, rfl, rfl, rfl, rfl, trivial⟩
            | exact AQ.meet (_, _, _, hs) ⟨hle, hst.perm (List.Perm.swap _ _ _), hg5, by dsimp only; omega, fun r hr => .inl (hhs r hr)⟩ ⟨rfl, rfl, rfl, rfl, rfl, trivial⟩
        · have hcb45 := hc45
          try simp only [decide_eq_true_eq, decide_eq_false_iff_not] at hc45
          refine CW.skip ?_
          first
            | exact AQ.meet (_, _, _, hs ++ [allowH]) ⟨hle, hst.perm (List.Perm.swap _ _ _), hgN8, by simp; omega, by
                intro r hr
                rcases List.mem_append.1 hr with h | h
                · exact .inl (hhs r h)
                · exact .inr (List.mem_singleton.1 h)⟩ ⟨rfl, rfl, rfl, rfl, rfl, trivial⟩
            | exact AQ.meet (_, _, _, hs) ⟨hle, hst.perm (List.Perm.swap _ _ _), hg5, by dsimp only; omega, fun r hr => .inl (hhs r hr)⟩ ⟨rfl, rfl, rfl, rfl, rfl, trivial⟩
      · clear hle hl hg5 hhs
        rintro ⟨I9, v9, Lv9, hs9⟩ w ⟨hle, hstn, hg9, hn9, hh9⟩
        dsimp only at hle hstn hg9 hn9 hh9 ⊢
        clear hst
        have hst := hstn
        clear hstn
        refine AQ.next ?_
        refine CW.seq ?_
        -- region 9
        refine CW.region ?_
        refine RW.opE rfl (runs_lit1R Tryd.underlying22 ti3 (by decide) rfl rfl rfl (by simp [Value.oneCell']) hst) ?_
        rintro u22 w ⟨I22, hI22, hstn, h22⟩
        clear hst
        have hst := hstn
        clear hstn
        replace hle := hle.trans hI22
        have hZ : RdI _ u22 sizesL := h22
        refine RW.op1 rfl (runs_move rfl) ?_
        refine RW.op1 rfl (runs_move rfl) ?_
        refine RW.op1 rfl (runs_quo rfl rfl (by decide)) ?_
        obtain ⟨qC, hqC⟩ : ∃ q, IntKind.i64.wrap (n.tdiv 5) = q := ⟨_, rfl⟩
        have hqoC : i64ok qC := by rw [← hqC]; exact wrap_ok _
        rw [hqC]
        refine RW.call rfl call8 rfl rfl (within_spec hst (v := qC) (n := 7) (hqoC) (by unfold i64ok; decide)) ?_
        rintro e w ⟨rfl, hstn⟩
        clear hst
        have hst := hstn
        clear hstn
        refine ⟨_, rfl, ?_⟩
        refine RW.op1 rfl (RdL.indexAddr Tryd.underlying22 ti3 (by decide) rfl rfl hZ (by show 0 ≤ within qC 7 ∧ within qC 7 < 7; exact ⟨(within_range qC 7).1, (within_range qC 7).2 (by decide)⟩)) ?_
        refine RW.op1 rfl (runs_load1 sc3 rfl (hst.cell_imm (RdI.at hZ (within_range qC 7).1 ((within_range qC 7).2 (by decide))))) ?_
        have hzm := iat_mem (l := sizesL) (within_range qC 7).1 ((within_range qC 7).2 (by decide))
        generalize iat sizesL (within qC 7) = z at hzm ⊢
        have hzr : 0 ≤ z ∧ z ≤ 60 := by
          simp only [sizesL, List.mem_cons, List.not_mem_nil, or_false] at hzm
          omega
        refine RW.call rfl call32 rfl rfl (bytes_spec hst 99 z (by unfold i64ok; decide) (by omega)) ?_
        rintro e w ⟨I24, vB, hI24, rfl, hstn, hB⟩
        clear hst
        have hst := hstn
        clear hstn
        replace h22 := h22.mono hI24
        replace hZ := hZ.mono hI24
        replace hle := hle.trans hI24
        refine ⟨_, rfl, ?_⟩
        refine RW.op1 rfl (RdB.string Tryd.underlying60 Tryd.underlying5 Tryd.underlying9 rfl hB hst) ?_
        first
          | refine RW.op1 rfl (runs_fieldAddr0 rfl Tryd.underlying40 rfl ti9 (by decide)) ?_
          | refine RW.op1 rfl (runs_fieldAddr rfl Tryd.underlying40 rfl ti9 (by decide)) ?_
        first
          | refine RW.opE0 (runs_store1P ti9 rfl rfl hst (k := 0) rfl rfl (NoFz.zero _) rfl) ?_
          | refine RW.opE0 (runs_store1P ti9 rfl rfl hst (k := 1) rfl rfl (NoFz.zero _) rfl) ?_
          | refine RW.opE0 (runs_store1P ti9 rfl rfl hst (k := 2) rfl rfl (NoFz.zero _) rfl) ?_
        rintro w hstn
        clear hst
        have hst := hstn
        clear hstn
        try simp only [List.set_cons_zero, List.set_cons_succ] at hst
        have hbz : (strOf (bytesOf 99 z)).size ≤ 60 := by rw [strOfZ, bytesOf_len]; omega
        generalize strOf (bytesOf 99 z) = body at hbz hst
        refine RW.done ?_
        refine AQ.next ?_
        refine CW.seq ?_
        refine CW.seq ?_
        -- region 10
        refine CW.region ?_
        refine RW.op1 rfl (runs_move rfl) ?_
        refine RW.op1 rfl (runs_move rfl) ?_
        refine RW.call rfl call8 rfl rfl (within_spec hst (v := n) (n := 50) (hn) (by unfold i64ok; decide)) ?_
        rintro e w ⟨rfl, hstn⟩
        clear hst
        have hst := hstn
        clear hstn
        refine ⟨_, rfl, ?_⟩
        refine RW.op1 rfl (runs_eqI rfl rfl) ?_
        refine RW.done ?_
        refine AQ.next ?_
        refine CW.cond rfl (fun hc65 => ?_) (fun hc65 => ?_)
        · have hcb65 := hc65
          try simp only [decide_eq_true_eq, decide_eq_false_iff_not] at hc65
          -- region 11
          refine CW.region ?_
          refine RW.op1 rfl (runs_move rfl) ?_
          first
            | refine RW.op1 rfl (runs_fieldAddr0 rfl Tryd.underlying40 rfl ti9 (by decide)) ?_
            | refine RW.op1 rfl (runs_fieldAddr rfl Tryd.underlying40 rfl ti9 (by decide)) ?_
          first
            | refine RW.opE0 (runs_store1P ti9 rfl rfl hst (k := 0) rfl rfl (NoFz.zero _) rfl) ?_
            | refine RW.opE0 (runs_store1P ti9 rfl rfl hst (k := 1) rfl rfl (NoFz.zero _) rfl) ?_
            | refine RW.opE0 (runs_store1P ti9 rfl rfl hst (k := 2) rfl rfl (NoFz.zero _) rfl) ?_
          rintro w hstn
          clear hst
          have hst := hstn
          clear hstn
          try simp only [List.set_cons_zero, List.set_cons_succ] at hst
          refine RW.done ?_
          refine AQ.next ?_
          refine CW.seq ?_
          -- region 12
          refine CW.region ?_
          first
            | refine RW.op1 rfl (runs_loadN (vs := [_, _, _, _]) ag40 ti40 rfl hst (k := 0) rfl rfl rfl) ?_
            | refine RW.op1 rfl (runs_loadN (vs := [_, _, _, _]) ag40 ti40 rfl hst (k := 1) rfl rfl rfl) ?_
            | refine RW.op1 rfl (runs_loadN (vs := [_, _, _, _]) ag40 ti40 rfl hst (k := 2) rfl rfl rfl) ?_
          refine RW.opE0 (runs_storeW ti40 rfl rfl hst (k := 0) rfl rfl rfl (NoFz.zero _) (all4 _ _ hg9.one)) ?_
          rintro w hstn
          clear hst
          have hst := hstn
          clear hstn
          try simp only [List.set_cons_zero, List.set_cons_succ] at hst
          refine RW.done ?_
          refine AQ.next ?_
          refine CW.ret ?_
          refine AQ.retS rfl rfl (hst.loadN (vs := [_, _, _, _]) (k := 0) ag40 ti40 rfl rfl rfl) ?_
          obtain ⟨I', h1, h2, h3⟩ := hg9.freeze hst.drop1.drop1
          exact ⟨I', v9, code, hs9, s, hle.trans h1, rfl, h2, h3, hcm, hh9, hn9, .inr rfl⟩
        · have hcb65 := hc65
          try simp only [decide_eq_true_eq, decide_eq_false_iff_not] at hc65
          refine CW.skip ?_
          refine AQ.next ?_
          refine CW.seq ?_
          -- region 12
          refine CW.region ?_
          first
            | refine RW.op1 rfl (runs_loadN (vs := [_, _, _, _]) ag40 ti40 rfl hst (k := 0) rfl rfl rfl) ?_
            | refine RW.op1 rfl (runs_loadN (vs := [_, _, _, _]) ag40 ti40 rfl hst (k := 1) rfl rfl rfl) ?_
            | refine RW.op1 rfl (runs_loadN (vs := [_, _, _, _]) ag40 ti40 rfl hst (k := 2) rfl rfl rfl) ?_
          refine RW.opE0 (runs_storeW ti40 rfl rfl hst (k := 0) rfl rfl rfl (NoFz.zero _) (all4 _ _ hg9.one)) ?_
          rintro w hstn
          clear hst
          have hst := hstn
          clear hstn
          try simp only [List.set_cons_zero, List.set_cons_succ] at hst
          refine RW.done ?_
          refine AQ.next ?_
          refine CW.ret ?_
          refine AQ.retS rfl rfl (hst.loadN (vs := [_, _, _, _]) (k := 0) ag40 ti40 rfl rfl rfl) ?_
          obtain ⟨I', h1, h2, h3⟩ := hg9.freeze hst.drop1.drop1
          exact ⟨I', v9, code, hs9, body, hle.trans h1, rfl, h2, h3, hcm, hh9, hn9, .inl hbz⟩
set_option maxRecDepth 100000 in
set_option maxHeartbeats 1000000 in
theorem to_spec {w0 w : World} {I : Imm} {L : Own} (hst : St w0 w I L) (code : Int) {vh : Value} {hs : List HRow} (hv : RdH I vh hs) (body : ByteArray) (cut : Bool) :
    Calls Tryd.prog 18 #[.agg #[.int .i64 code, vh, .string body, .bool cut]] w fun e w' => ∃ I', Imm.le I I' ∧ e = .returned (.agg #[.int .i64 code, vh, .string body, .bool cut]) ∧ St w0 w' I' L := by
  obtain ⟨hA, hcap, hvh⟩ : ∃ A c, vh = .slice A hs.length c := by obtain ⟨_, _, A, c, e, _⟩ := hv; exact ⟨A, c, e⟩
  subst hvh
  refine enter Tryd.func18 rfl (N := 12) rfl rfl ?_
  simp only [List.zipIdx_cons, List.zipIdx_nil, List.map_cons, List.map_nil, Nat.zero_add, Nat.reduceAdd]
  have hle := Imm.le.refl I
  refine CW.seq ?_
  -- region 0
  refine CW.region ?_
  refine RW.opE rfl (runs_box rfl hst) ?_
  rintro _ w ⟨b1, rfl, hstn⟩
  clear hst
  have hst := hstn
  clear hstn
  refine RW.opE rfl (runs_alloc ti35 hst) ?_
  rintro _ w ⟨b2, rfl, hstn⟩
  clear hst
  have hst := hstn
  clear hstn
  refine RW.done ?_
  refine AQ.next ?_
  refine CW.seq ?_
  -- region 1
  refine CW.region ?_
  first
    | refine RW.op1 rfl (runs_fieldAddr0 rfl Tryd.underlying40 rfl ti3 (by decide)) ?_
    | refine RW.op1 rfl (runs_fieldAddr rfl Tryd.underlying40 rfl ti3 (by decide)) ?_
  first
    | refine RW.op1 rfl (runs_load1 sc3 rfl (hst.cell_own (k := 0) rfl rfl)) ?_
    | refine RW.op1 rfl (runs_load1 sc3 rfl (hst.cell_own (k := 1) rfl rfl)) ?_
    | refine RW.op1 rfl (runs_load1 sc3 rfl (hst.cell_own (k := 2) rfl rfl)) ?_
  first
    | refine RW.op1 rfl (runs_fieldAddr0 rfl Tryd.underlying40 rfl ti31 (by decide)) ?_
    | refine RW.op1 rfl (runs_fieldAddr rfl Tryd.underlying40 rfl ti31 (by decide)) ?_
  first
    | refine RW.op1 rfl (runs_load1 sc31 rfl (hst.cell_own (k := 0) rfl rfl)) ?_
    | refine RW.op1 rfl (runs_load1 sc31 rfl (hst.cell_own (k := 1) rfl rfl)) ?_
    | refine RW.op1 rfl (runs_load1 sc31 rfl (hst.cell_own (k := 2) rfl rfl)) ?_
  first
    | refine RW.op1 rfl (runs_fieldAddr0 rfl Tryd.underlying40 rfl ti9 (by decide)) ?_
    | refine RW.op1 rfl (runs_fieldAddr rfl Tryd.underlying40 rfl ti9 (by decide)) ?_
  first
    | refine RW.op1 rfl (runs_load1 sc9 rfl (hst.cell_own (k := 0) rfl rfl)) ?_
    | refine RW.op1 rfl (runs_load1 sc9 rfl (hst.cell_own (k := 1) rfl rfl)) ?_
    | refine RW.op1 rfl (runs_load1 sc9 rfl (hst.cell_own (k := 2) rfl rfl)) ?_
  first
    | refine RW.op1 rfl (runs_fieldAddr0 rfl Tryd.underlying40 rfl ti4 (by decide)) ?_
    | refine RW.op1 rfl (runs_fieldAddr rfl Tryd.underlying40 rfl ti4 (by decide)) ?_
  first
    | refine RW.op1 rfl (runs_load1 sc4 rfl (hst.cell_own (k := 0) rfl rfl)) ?_
    | refine RW.op1 rfl (runs_load1 sc4 rfl (hst.cell_own (k := 1) rfl rfl)) ?_
    | refine RW.op1 rfl (runs_load1 sc4 rfl (hst.cell_own (k := 2) rfl rfl)) ?_
  refine RW.op1 rfl (runs_buildF (cells := [_, _, _, _]) bz35 rfl rfl rfl rfl rfl) ?_
  first
    | refine RW.opE0 (runs_storeW ti35 rfl rfl hst (k := 0) rfl rfl rfl (NoFz.zero _) rfl) ?_
    | refine RW.opE0 (runs_storeP ti35 rfl rfl hst (k := 0) rfl rfl rfl (NoFz.zero _) rfl) ?_
    | refine RW.opE0 (runs_storeW ti35 rfl rfl hst (k := 1) rfl rfl rfl (NoFz.zero _) rfl) ?_
    | refine RW.opE0 (runs_storeP ti35 rfl rfl hst (k := 1) rfl rfl rfl (NoFz.zero _) rfl) ?_
    | refine RW.opE0 (runs_storeW ti35 rfl rfl hst (k := 2) rfl rfl rfl (NoFz.zero _) rfl) ?_
    | refine RW.opE0 (runs_storeP ti35 rfl rfl hst (k := 2) rfl rfl rfl (NoFz.zero _) rfl) ?_
  rintro w hstn
  clear hst
  have hst := hstn
  clear hstn
  try simp only [List.set_cons_zero, List.set_cons_succ] at hst
  refine RW.done ?_
  refine AQ.next ?_
  refine CW.ret ?_
  refine AQ.retS rfl rfl (hst.loadN (vs := [_, _, _, _]) (k := 0) ag35 ti35 rfl rfl rfl) ?_
  exact ⟨_, hle, rfl, hst.drop1.drop1⟩
def hdsA : List HRow := [(⟨#[65, 99, 99, 101, 112, 116]⟩, ⟨#[120, 47, 121]⟩), (⟨#[88, 45, 79, 110, 101]⟩, ⟨#[49]⟩), (⟨#[67, 111, 110, 116, 101, 110, 116, 45, 84, 121, 112, 101]⟩, ⟨#[116, 101, 120, 116, 47, 112, 108, 97, 105, 110, 59, 32, 117]⟩), (⟨#[99, 111, 110, 116, 101, 110, 116, 45, 116, 121, 112, 101]⟩, ⟨#[97, 47, 106, 115, 111, 110]⟩), (⟨#[120, 45, 116, 119, 111]⟩, ⟨#[]⟩), (⟨#[97, 99, 99, 101, 112, 116, 45, 76, 65, 78, 71]⟩, ⟨#[100, 101]⟩), (⟨#[120, 45, 111, 110, 101]⟩, ⟨#[50]⟩)]
def hdsB (s : ByteArray) : List HRow := [(⟨#[72, 111, 115, 116]⟩, ⟨#[120]⟩), (⟨#[67, 111, 111, 107, 105, 101]⟩, ⟨#[49]⟩), (⟨#[115, 101, 99, 45, 120]⟩, ⟨#[49]⟩), (⟨#[80, 114, 111, 120, 121, 45, 121]⟩, ⟨#[49]⟩), (⟨#[]⟩, ⟨#[49]⟩), (⟨#[97, 32, 98]⟩, ⟨#[49]⟩), (⟨#[120]⟩, ⟨#[32, 49]⟩), (⟨#[120]⟩, ⟨#[49, 50, 51, 52, 53, 54, 55, 56, 57, 48, 49, 50, 51, 52, 53, 54, 32, 55]⟩), (⟨#[97, 98, 99, 100, 101, 102, 103, 104, 105, 106, 107, 108, 109]⟩, ⟨#[49]⟩), (⟨#[120]⟩, s), (s, ⟨#[49]⟩), (⟨#[120]⟩, ⟨#[195, 169]⟩)]
theorem hdsA_sz : ∀ r ∈ hdsA, r.1.size ≤ 20 ∧ r.2.size ≤ 20 := by decide
theorem hdsB_sz (s : ByteArray) (hs : s.size ≤ 1000000) : ∀ r ∈ hdsB s, r.1.size ≤ 1000000 ∧ r.2.size ≤ 1000000 := by
  intro r hr
  simp only [hdsB, List.mem_cons, List.not_mem_nil, or_false] at hr
  rcases hr with rfl | rfl | rfl | rfl | rfl | rfl | rfl | rfl | rfl | rfl | rfl | rfl
  all_goals first
    | exact ⟨Nat.le_of_ble_eq_true rfl, Nat.le_of_ble_eq_true rfl⟩
    | exact ⟨Nat.le_of_ble_eq_true rfl, hs⟩
    | exact ⟨hs, Nat.le_of_ble_eq_true rfl⟩
theorem flat_two (hs : List HRow) : (hs.flatMap hrow).length = hs.length * 2 := by
  induction hs with
  | nil => rfl
  | cons r t ih => rw [List.flatMap_cons, List.length_append, ih, List.length_cons, hrow_len]; omega
theorem Grow.src {w0 w : World} {I : Imm} {L Lv : Own} {e : TypeId} {size n : Nat} {v : Value} {xs : List Value} (hg : Grow e size v n xs Lv) (hst : St w0 w I (Lv ++ L)) : ∃ B c, v = .slice B n c ∧ ∀ j u, xs[j]? = some u → ∃ a, B = some a ∧ w.cell? (a.add j) = some u := by
  have hc := fun j u hj => Grow.cell hg hst (fun p hp => List.mem_append_left _ hp) (j := j) (u := u) hj
  obtain ⟨h1, _, ⟨rfl, rfl, rfl⟩ | ⟨g, cap, cur, rfl, rfl, _⟩⟩ := hg
  · obtain rfl : xs = [] := List.eq_nil_of_length_eq_zero (by simpa using h1)
    exact ⟨none, 0, rfl, fun j u hj => by simp at hj⟩
  · exact ⟨_, cap, rfl, fun j u hj => ⟨_, rfl, hc j u hj⟩⟩
def HdM (s : ByteArray) (hs : List HRow) : Prop := hs.length ≤ 4 ∧ ∀ r ∈ hs, r ∈ hdsA ∨ r ∈ hdsB s
theorem HdM.hb {s : ByteArray} {hs : List HRow} (h : HdM s hs) (hs0 : s.size ≤ 1000000) : HB hs := by
  refine ⟨by have := h.1; omega, fun r hr => ?_⟩
  rcases h.2 r hr with h1 | h1
  · have := hdsA_sz r h1; omega
  · have := hdsB_sz s hs0 r h1; omega
set_option maxRecDepth 100000 in
set_option maxHeartbeats 4000000 in
theorem heads_spec {w0 w : World} {I : Imm} {L : Own} (hst : St w0 w I L) (n : Int) (hn : i64ok n) (s : ByteArray) :
    Calls Tryd.prog 16 #[.int .i64 n, .string s] w fun e w' => ∃ I' v hs, Imm.le I I' ∧ e = .returned v ∧ St w0 w' I' L ∧ RdH I' v hs ∧ HdM s hs := by
  refine enter Tryd.func16 rfl (N := 86) rfl rfl ?_
  simp only [List.zipIdx_cons, List.zipIdx_nil, List.map_cons, List.map_nil, Nat.zero_add, Nat.reduceAdd]
  have hle := Imm.le.refl I
  refine CW.seq ?_
  -- region 0
  refine CW.region ?_
  refine RW.op1 rfl (runs_assign rfl) ?_
  refine RW.done ?_
  refine AQ.next ?_
  refine CW.seq ?_
  -- region 1
  refine CW.region ?_
  refine RW.op1 rfl (runs_buildF (cells := [_, _]) bz30 rfl rfl rfl rfl rfl) ?_
  refine RW.op1 rfl (runs_buildF (cells := [_, _]) bz30 rfl rfl rfl rfl rfl) ?_
  refine RW.op1 rfl (runs_buildF (cells := [_, _]) bz30 rfl rfl rfl rfl rfl) ?_
  refine RW.op1 rfl (runs_buildF (cells := [_, _]) bz30 rfl rfl rfl rfl rfl) ?_
  refine RW.op1 rfl (runs_buildF (cells := [_, _]) bz30 rfl rfl rfl rfl rfl) ?_
  refine RW.op1 rfl (runs_buildF (cells := [_, _]) bz30 rfl rfl rfl rfl rfl) ?_
  refine RW.op1 rfl (runs_buildF (cells := [_, _]) bz30 rfl rfl rfl rfl rfl) ?_
  refine RW.opE rfl (runs_litF (xs := [.agg #[_, _], .agg #[_, _], .agg #[_, _], .agg #[_, _], .agg #[_, _], .agg #[_, _], .agg #[_, _]]) Tryd.underlying31 ti30 (by decide) rfl rfl rfl rfl rfl hst (by decide)) ?_
  rintro u1 w ⟨Lv1, hstn, hg1⟩
  clear hst
  have hst := hstn
  clear hstn
  obtain ⟨J1, hJ1, hstn, h1⟩ := Grow.freeze hg1 hst
  clear hst
  have hst := hstn
  clear hstn
  replace hle := hle.trans hJ1
  try simp only [List.nil_append] at h1
  replace h1 : RdH J1 u1 hdsA := h1
  obtain ⟨vA, rfl⟩ : ∃ v, v = u1 := ⟨_, rfl⟩
  have hA := h1
  refine RW.op1 rfl (runs_assign rfl) ?_
  refine RW.done ?_
  refine AQ.next ?_
  refine CW.seq ?_
  -- region 2
  refine CW.region ?_
  refine RW.op1 rfl (runs_buildF (cells := [_, _]) bz30 rfl rfl rfl rfl rfl) ?_
  refine RW.op1 rfl (runs_buildF (cells := [_, _]) bz30 rfl rfl rfl rfl rfl) ?_
  refine RW.op1 rfl (runs_buildF (cells := [_, _]) bz30 rfl rfl rfl rfl rfl) ?_
  refine RW.op1 rfl (runs_buildF (cells := [_, _]) bz30 rfl rfl rfl rfl rfl) ?_
  refine RW.op1 rfl (runs_buildF (cells := [_, _]) bz30 rfl rfl rfl rfl rfl) ?_
  refine RW.op1 rfl (runs_buildF (cells := [_, _]) bz30 rfl rfl rfl rfl rfl) ?_
  refine RW.op1 rfl (runs_buildF (cells := [_, _]) bz30 rfl rfl rfl rfl rfl) ?_
  refine RW.op1 rfl (runs_buildF (cells := [_, _]) bz30 rfl rfl rfl rfl rfl) ?_
  refine RW.op1 rfl (runs_buildF (cells := [_, _]) bz30 rfl rfl rfl rfl rfl) ?_
  refine RW.op1 rfl (runs_move rfl) ?_
  refine RW.op1 rfl (runs_buildF (cells := [_, _]) bz30 rfl rfl rfl rfl rfl) ?_
  refine RW.op1 rfl (runs_move rfl) ?_
  refine RW.op1 rfl (runs_buildF (cells := [_, _]) bz30 rfl rfl rfl rfl rfl) ?_
  refine RW.op1 rfl (runs_buildF (cells := [_, _]) bz30 rfl rfl rfl rfl rfl) ?_
  refine RW.opE rfl (runs_litF (xs := [.agg #[_, _], .agg #[_, _], .agg #[_, _], .agg #[_, _], .agg #[_, _], .agg #[_, _], .agg #[_, _], .agg #[_, _], .agg #[_, _], .agg #[_, _], .agg #[_, _], .agg #[_, _]]) Tryd.underlying31 ti30 (by decide) rfl rfl rfl rfl rfl hst (by decide)) ?_
  rintro u2 w ⟨Lv2, hstn, hg2⟩
  clear hst
  have hst := hstn
  clear hstn
  obtain ⟨J2, hJ2, hstn, h2⟩ := Grow.freeze hg2 hst
  clear hst
  have hst := hstn
  clear hstn
  replace h1 := h1.mono hJ2
  replace hA := hA.mono hJ2
  replace hle := hle.trans hJ2
  try simp only [List.nil_append] at h2
  replace h2 : RdH J2 u2 (hdsB s) := h2
  obtain ⟨vB, rfl⟩ : ∃ v, v = u2 := ⟨_, rfl⟩
  have hB := h2
  refine RW.op1 rfl (runs_assign rfl) ?_
  refine RW.done ?_
  refine AQ.next ?_
  refine CW.seq ?_
  -- region 3
  refine CW.region ?_
  refine RW.op1 rfl (runs_assign rfl) ?_
  refine RW.done ?_
  refine AQ.next ?_
  refine CW.seq ?_
  -- region 4
  refine CW.region ?_
  refine RW.op1 rfl (runs_assign rfl) ?_
  refine RW.done ?_
  refine AQ.next ?_
  refine CW.seq ?_
  refine CW.seq ?_
  -- region 5
  refine CW.region ?_
  refine RW.op1 rfl (runs_assign rfl) ?_
  refine RW.done ?_
  refine AQ.next ?_
  refine CW.block ?_
  -- loop 1
  refine CW.loop (Nat × Imm × Value × Own × List HRow) (fun x w => I.le x.2.1 ∧ RdH x.2.1 vA hdsA ∧ RdH x.2.1 vB (hdsB s) ∧ St w0 w x.2.1 (x.2.2.2.1 ++ L) ∧ Grow 30 2 x.2.2.1 (x.2.2.2.2).length ((x.2.2.2.2).flatMap hrow) x.2.2.2.1 ∧ x.2.2.2.2.length = x.1 ∧ x.1 ≤ 2 ∧ ∀ r ∈ x.2.2.2.2, r ∈ hdsA) (fun x => [(0, .int .i64 n), (5, vA), (6, vB), (7, .func (.func 8) #[] #[]), (8, x.2.2.1), (9, .int .i64 (x.1 : Nat))]) (fun x => 2 - x.1) ⟨(0, _, _, [], []), ⟨hle, hA, hB, hst, Grow.nil _ _, rfl, Nat.zero_le _, by simp⟩, ⟨rfl, rfl, rfl, rfl, rfl, rfl, trivial⟩⟩ ?_
  clear hle hA hB
  rintro ⟨k, I2, v2, Lv2, hs⟩ w ⟨hle, hA, hB, hstn, hg2, hk, hk2, hhs⟩
  dsimp only at hle hA hB hstn hg2 hk hk2 hhs ⊢
  clear hst
  have hst := hstn
  clear hstn
  refine CW.seq ?_
  refine CW.seq ?_
  -- region 6
  refine CW.cut Unit (fun _ w => St w0 w I2 (Lv2 ++ L)) (fun _ => [(0, .int .i64 n), (5, vA), (6, vB), (7, .func (.func 8) #[] #[]), (8, v2), (9, .int .i64 (k : Nat)), (41, .bool (decide ((k : Int) < within n 4 ∧ k < 2)))]) ?_ ?_
  · -- region 6
    refine CW.region ?_
    refine RW.op1 rfl (runs_move rfl) ?_
    refine RW.op1 rfl (runs_move rfl) ?_
    refine RW.op1 rfl (runs_move rfl) ?_
    refine RW.call rfl call8 rfl rfl (within_spec hst (v := n) (n := 4) (hn) (by unfold i64ok; decide)) ?_
    rintro e w ⟨rfl, hstn⟩
    clear hst
    have hst := hstn
    clear hstn
    refine ⟨_, rfl, ?_⟩
    refine RW.op1 rfl (runs_lss rfl rfl) ?_
    refine RW.op1 rfl (runs_move rfl) ?_
    refine RW.split (t := 38) rfl (fun hb38 => ?_) (fun hb38 => ?_)
    · have hb38p := hb38
      try simp only [decide_eq_true_eq, decide_eq_false_iff_not] at hb38p
      refine RW.on_guard rfl rfl rfl rfl hb38 ?_
      refine RW.op1 rfl (runs_move rfl) ?_
      refine RW.on_guard rfl rfl rfl rfl hb38 ?_
      refine RW.op1 rfl (runs_lss rfl rfl) ?_
      refine RW.op1 rfl (runs_pick_true rfl hb38 rfl) ?_
      refine RW.done ?_
      exact AQ.meet () hst ⟨rfl, rfl, rfl, rfl, rfl, rfl, boolN (by simp only [decide_eq_true_eq, Bool.false_eq_true, false_iff]; omega), trivial⟩
    · have hb38p := hb38
      try simp only [decide_eq_true_eq, decide_eq_false_iff_not] at hb38p
      refine RW.off_guard rfl rfl rfl rfl hb38 ?_
      refine RW.off_guard rfl rfl rfl rfl hb38 ?_
      refine RW.op1 rfl (runs_pick_false rfl hb38 rfl) ?_
      refine RW.done ?_
      exact AQ.meet () hst ⟨rfl, rfl, rfl, rfl, rfl, rfl, boolN (by simp only [decide_eq_true_eq, Bool.false_eq_true, false_iff]; omega), trivial⟩
  · rintro _ w hstn
    clear hst
    have hst := hstn
    clear hstn
    refine AQ.next ?_
    refine CW.cond rfl (fun hc41 => ?_) (fun hc41 => ?_)
    · have hcb41 := hc41
      try simp only [decide_eq_true_eq, decide_eq_false_iff_not] at hc41
      have h41 : (k : Int) < within n 4 ∧ k < 2 := of_decide_eq_true hcb41
      refine CW.skip ?_
      refine AQ.next ?_
      refine CW.seq ?_
      refine CW.block ?_
      -- region 8
      refine CW.region ?_
      refine RW.op1 rfl (runs_move rfl) ?_
      refine RW.op1 rfl (runs_move rfl) ?_
      refine RW.op1 rfl (runs_move rfl) ?_
      refine RW.op1 rfl (runs_move rfl) ?_
      refine RW.op1 rfl (runs_quo rfl rfl (by decide)) ?_
      refine RW.op1 rfl (runs_move rfl) ?_
      refine RW.op1 rfl (runs_move rfl) ?_
      refine RW.op1 rfl (runs_quo rfl rfl (by decide)) ?_
      refine RW.op1 rfl (runs_rem rfl rfl (by decide)) ?_
      refine RW.op1 rfl (runs_addW rfl rfl) ?_
      refine RW.op1 rfl (runs_mulW rfl rfl) ?_
      refine RW.op1 rfl (runs_addW rfl rfl) ?_
      generalize hq : IntKind.i64.wrap (IntKind.i64.wrap (n.tdiv 4) + _) = q
      have hqo : i64ok q := by rw [← hq]; exact wrap_ok _
      refine RW.op1 rfl (runs_move rfl) ?_
      refine RW.op1 rfl (RdL.len Tryd.underlying31 rfl hA) ?_
      refine RW.call rfl call8 rfl rfl (within_spec hst (v := q) (n := 7) hqo (by unfold i64ok; decide)) ?_
      rintro e w ⟨rfl, hstn⟩
      clear hst
      have hst := hstn
      clear hstn
      have r0 := within_range q 7
      have r0t := r0.2 (by decide)
      obtain ⟨j, hj⟩ : ∃ j : Nat, within q 7 = (j : Int) := ⟨(within q 7).toNat, by omega⟩
      rw [show ((hdsA.length : Nat) : Int) = 7 from rfl, hj]
      rw [hj] at r0 r0t
      obtain ⟨⟨rn, rv⟩, hr⟩ : ∃ r, hdsA[j]? = some r := ⟨_, List.getElem?_eq_getElem (show j < hdsA.length by show j < 7; omega)⟩
      refine ⟨_, rfl, ?_⟩
      refine RW.op1 rfl (RdL.indexAddr Tryd.underlying31 ti30 (by decide) rfl rfl hA (by show 0 ≤ (j : Int) ∧ (j : Int) < 7; omega)) ?_
      refine RW.op1 rfl (RdL.loadRow (row := hrow (rn, rv)) ag30 ti30 rfl hA hst rfl (hrow_at hr)) ?_
      refine RW.opE rfl (runs_litF (xs := [.agg #[_, _]]) Tryd.underlying31 ti30 (by decide) rfl rfl rfl rfl rfl hst (by decide)) ?_
      rintro u5 w ⟨Lv5, hstn, hg5⟩
      clear hst
      have hst := hstn
      clear hstn
      obtain ⟨J5, hJ5, hstn, h5⟩ := Grow.freeze hg5 hst
      clear hst
      have hst := hstn
      clear hstn
      replace hA := hA.mono hJ5
      replace hB := hB.mono hJ5
      replace hle := hle.trans hJ5
      try simp only [List.nil_append] at h5
      replace h5 : RdL _ 2 u5 1 (hrow (rn, rv)) := h5
      have hR := h5
      refine RW.opE rfl (runs_appendR Tryd.underlying31 ti30 rfl (by decide) rfl rfl hst hg2 hR (by omega) (by unfold maxLen; omega)) ?_
      rintro uN w ⟨LvN, hstn, hgN⟩
      clear hst
      have hst := hstn
      clear hstn
      refine RW.op1 rfl (runs_assign rfl) ?_
      refine RW.done ?_
      refine AQ.block_normal ?_
      refine AQ.next ?_
      -- region 7
      refine CW.region ?_
      refine RW.op1 rfl (runs_move rfl) ?_
      refine RW.op1 rfl (runs_add rfl rfl (by omega)) ?_
      refine RW.op1 rfl (runs_assign rfl) ?_
      refine RW.done ?_
      exact AQ.again (x := (k, I2, v2, Lv2, hs)) (k + 1, _, uN, LvN, hs ++ [(rn, rv)]) ⟨hle, hA, hB, hst, by
        dsimp only
        rw [List.length_append, List.flatMap_append]
        exact hgN, by simp [hk], by dsimp only; omega, by
        intro r hr2
        rcases List.mem_append.1 hr2 with h | h
        · exact hhs r h
        · rw [List.mem_singleton.1 h]; exact List.mem_of_getElem? hr⟩ ⟨rfl, rfl, rfl, rfl, rfl, rfl, trivial⟩ (by dsimp only; omega)
    · have hcb41 := hc41
      try simp only [decide_eq_true_eq, decide_eq_false_iff_not] at hc41
      skip
      refine CW.exit ?_
      refine AQ.past_exit ?_
      refine AQ.past_exit ?_
      refine AQ.block_hit ?_
      refine AQ.next ?_
      refine CW.seq ?_
      refine CW.seq ?_
      -- region 9
      refine CW.region ?_
      refine RW.op1 rfl (runs_move rfl) ?_
      refine RW.op1 rfl (runs_move rfl) ?_
      refine RW.op1 rfl (runs_quo rfl rfl (by decide)) ?_
      obtain ⟨q9, hq9⟩ : ∃ q, IntKind.i64.wrap (n.tdiv 9) = q := ⟨_, rfl⟩
      have hqo9 : i64ok q9 := by rw [← hq9]; exact wrap_ok _
      rw [hq9]
      refine RW.call rfl call8 rfl rfl (within_spec hst (v := q9) (n := 20) (hqo9) (by unfold i64ok; decide)) ?_
      rintro e w ⟨rfl, hstn⟩
      clear hst
      have hst := hstn
      clear hstn
      refine ⟨_, rfl, ?_⟩
      refine RW.done ?_
      refine AQ.next ?_
      refine CW.block ?_
      refine CW.seq ?_
      -- region 10
      refine CW.region ?_
      refine RW.op1 rfl (runs_eqI rfl rfl) ?_
      refine RW.op1 rfl (runs_assign rfl) ?_
      refine RW.done ?_
      refine AQ.next ?_
      refine CW.cond rfl (fun hc67 => ?_) (fun hc67 => ?_)
      · have hcb67 := hc67
        try simp only [decide_eq_true_eq, decide_eq_false_iff_not] at hc67
        -- region 11
        refine CW.region ?_
        refine RW.op1 rfl (runs_move rfl) ?_
        refine RW.op1 rfl (runs_move rfl) ?_
        refine RW.op1 rfl (runs_move rfl) ?_
        refine RW.op1 rfl (runs_move rfl) ?_
        refine RW.op1 rfl (runs_move rfl) ?_
        refine RW.op1 rfl (RdL.len Tryd.underlying31 rfl hB) ?_
        refine RW.call rfl call8 rfl rfl (within_spec hst (v := n) (n := 12) hn (by unfold i64ok; decide)) ?_
        rintro e w ⟨rfl, hstn⟩
        clear hst
        have hst := hstn
        clear hstn
        have r0 := within_range n 12
        have r0t := r0.2 (by decide)
        obtain ⟨j, hj⟩ : ∃ j : Nat, within n 12 = (j : Int) := ⟨(within n 12).toNat, by omega⟩
        rw [show (((hdsB s).length : Nat) : Int) = 12 from rfl, hj]
        rw [hj] at r0 r0t
        obtain ⟨⟨rn, rv⟩, hr⟩ : ∃ r, (hdsB s)[j]? = some r := ⟨_, List.getElem?_eq_getElem (show j < (hdsB s).length by show j < 12; omega)⟩
        refine ⟨_, rfl, ?_⟩
        refine RW.op1 rfl (RdL.indexAddr Tryd.underlying31 ti30 (by decide) rfl rfl hB (by show 0 ≤ (j : Int) ∧ (j : Int) < 12; omega)) ?_
        refine RW.op1 rfl (RdL.loadRow (row := hrow (rn, rv)) ag30 ti30 rfl hB hst rfl (hrow_at hr)) ?_
        refine RW.opE rfl (runs_litF (xs := [.agg #[_, _]]) Tryd.underlying31 ti30 (by decide) rfl rfl rfl rfl rfl hst (by decide)) ?_
        rintro u9 w ⟨Lv9, hstn, hg9⟩
        clear hst
        have hst := hstn
        clear hstn
        obtain ⟨J9, hJ9, hstn, h9⟩ := Grow.freeze hg9 hst
        clear hst
        have hst := hstn
        clear hstn
        replace hA := hA.mono hJ9
        replace hB := hB.mono hJ9
        replace hle := hle.trans hJ9
        try simp only [List.nil_append] at h9
        replace h9 : RdL _ 2 u9 1 (hrow (rn, rv)) := h9
        have hR8 := h9
        refine RW.opE rfl (runs_appendR Tryd.underlying31 ti30 rfl (by decide) rfl rfl hst hg2 hR8 (by omega) (by unfold maxLen; omega)) ?_
        rintro uM w ⟨LvM, hstn, hgM⟩
        clear hst
        have hst := hstn
        clear hstn
        refine RW.op1 rfl (runs_assign rfl) ?_
        refine RW.done ?_
        refine AQ.block_normal ?_
        refine AQ.next ?_
        refine CW.seq ?_
        -- region 14
        refine CW.region ?_
        refine RW.op1 rfl (runs_move rfl) ?_
        refine RW.op1 rfl (runs_assign rfl) ?_
        refine RW.done ?_
        refine AQ.next ?_
        refine CW.ret ?_
        refine AQ.ret1 rfl rfl ?_
        obtain ⟨I', h1, h2, h3⟩ := hgM.freeze hst
        refine ⟨I', uM, hs ++ [(rn, rv)], hle.trans h1, rfl, h2, ?_, ⟨by simp; omega, fun r hr2 => ?_⟩⟩
        · unfold RdH
          rw [List.length_append, List.flatMap_append]
          exact h3
        · rcases List.mem_append.1 hr2 with h | h
          · exact .inl (hhs r h)
          · rw [List.mem_singleton.1 h]; exact .inr (List.mem_of_getElem? hr)
      · have hcb67 := hc67
        try simp only [decide_eq_true_eq, decide_eq_false_iff_not] at hc67
        refine CW.seq ?_
        -- region 12
        refine CW.region ?_
        refine RW.op1 rfl (runs_eqI rfl rfl) ?_
        refine RW.op1 rfl (runs_assign rfl) ?_
        refine RW.done ?_
        refine AQ.next ?_
        refine CW.cond rfl (fun hc80 => ?_) (fun hc80 => ?_)
        · have hcb80 := hc80
          try simp only [decide_eq_true_eq, decide_eq_false_iff_not] at hc80
          -- region 13
          refine CW.region ?_
          refine RW.op1 rfl (runs_move rfl) ?_
          refine RW.op1 rfl (runs_move rfl) ?_
          obtain ⟨Bs, cs, hvs, hsrc⟩ : ∃ B c, v2 = .slice B hs.length c ∧ ∀ j u, (hs.flatMap hrow)[j]? = some u → ∃ a, B = some a ∧ w.cell? (a.add j) = some u := Grow.src hg2 hst
          refine RW.opE rfl (runs_appendG (m := hs.length) (c := cs) (B := Bs) Tryd.underlying31 ti30 rfl (by decide) rfl (by rw [← hvs]; rfl) hst hg2 (by rw [flat_two]) hsrc hg2.2.1 (by omega) (by unfold maxLen; omega)) ?_
          rintro uM w ⟨LvM, hstn, hgM⟩
          clear hst
          have hst := hstn
          clear hstn
          refine RW.op1 rfl (runs_assign rfl) ?_
          refine RW.done ?_
          refine AQ.block_normal ?_
          refine AQ.next ?_
          refine CW.seq ?_
          -- region 14
          refine CW.region ?_
          refine RW.op1 rfl (runs_move rfl) ?_
          refine RW.op1 rfl (runs_assign rfl) ?_
          refine RW.done ?_
          refine AQ.next ?_
          refine CW.ret ?_
          refine AQ.ret1 rfl rfl ?_
          obtain ⟨I', h1, h2, h3⟩ := hgM.freeze hst
          refine ⟨I', uM, hs ++ hs, hle.trans h1, rfl, h2, ?_, ⟨by simp; omega, fun r hr2 => ?_⟩⟩
          · unfold RdH
            rw [List.length_append, List.flatMap_append]
            exact h3
          · rcases List.mem_append.1 hr2 with h | h <;> exact .inl (hhs r h)
        · have hcb80 := hc80
          try simp only [decide_eq_true_eq, decide_eq_false_iff_not] at hc80
          refine CW.skip ?_
          refine AQ.block_normal ?_
          refine AQ.next ?_
          refine CW.seq ?_
          -- region 14
          refine CW.region ?_
          refine RW.op1 rfl (runs_move rfl) ?_
          refine RW.op1 rfl (runs_assign rfl) ?_
          refine RW.done ?_
          refine AQ.next ?_
          refine CW.ret ?_
          refine AQ.ret1 rfl rfl ?_
          obtain ⟨I', h1, h2, h3⟩ := hg2.freeze hst
          exact ⟨I', v2, hs, hle.trans h1, rfl, h2, h3, by omega, fun r hr2 => .inl (hhs r hr2)⟩
end Go.Proofs.YtfdgnjbbchkgpaaDoorX
