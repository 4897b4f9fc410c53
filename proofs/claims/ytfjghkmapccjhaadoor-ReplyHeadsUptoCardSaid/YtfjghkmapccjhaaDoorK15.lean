/- Headers are told in order, each as it stood. -/
import Derived.Test.YtfjghkmapccjhaaDoorT
import Derived.Test.YtfjghkmapccjhaaDoorK10
import Derived.Test.YtfjghkmapccjhaaDoorXV
namespace Go.Proofs.YtfjghkmapccjhaaDoorX
set_option linter.unusedVariables false
set_option linter.unusedSimpArgs false
open Go Go.RowKit Go.Proofs

def nmL : List (List UInt8) := [[97], [66, 45, 50], [101, 116, 97, 103], [120]]
def valL : List (List UInt8) := [[], [49], [97, 32, 98], [126, 58, 126]]
def prL : List (List UInt8) := [[], [32], [32, 32, 32]]
def poL : List (List UInt8) := [[], [32, 32]]
def rowOf (n p v q : List UInt8) : List UInt8 × HL := (n ++ [58] ++ p ++ v ++ q, (n, v))
def rowOkB (n p v q : List UInt8) : Bool := !(hasC (rowOf n p v q).1) && !((rowOf n p v q).1 == []) && (oneL (rowOf n p v q).1 == some (n, v)) && !(isCL n) && decide ((rowOf n p v q).1.length ≤ 13)
theorem rows_all : (nmL.all fun n => prL.all fun p => valL.all fun v => poL.all fun q => rowOkB n p v q) = true := by kernel_rfl
theorem rows_good {n p v q : List UInt8} (hn : n ∈ nmL) (hp : p ∈ prL) (hv : v ∈ valL) (hq : q ∈ poL) : GoodR (rowOf n p v q) ∧ isCL n = false ∧ (rowOf n p v q).1.length ≤ 13 := by
  have h := List.all_eq_true.1 (List.all_eq_true.1 (List.all_eq_true.1 (List.all_eq_true.1 rows_all n hn) p hp) v hv) q hq
  unfold rowOkB at h
  simp only [Bool.and_eq_true, Bool.not_eq_true', decide_eq_true_eq] at h
  obtain ⟨⟨⟨⟨h1, h2⟩, h3⟩, h4⟩, h5⟩ := h
  exact ⟨⟨h1, ⟨(fun e => by rw [e] at h2; cases h2), (by simpa [rowOf] using h3)⟩⟩, h4, h5⟩
theorem nm_sz : ∀ n ∈ nmL, n.length ≤ 4 := by decide
theorem val_sz : ∀ n ∈ valL, n.length ≤ 3 := by decide
theorem pr_sz : ∀ n ∈ prL, n.length ≤ 3 := by decide
theorem po_sz : ∀ n ∈ poL, n.length ≤ 2 := by decide
def RowIn (x : List UInt8 × HL) : Prop := GoodR x ∧ isCL x.2.1 = false ∧ x.1.length ≤ 13
theorem rowsP_more (rs : List (List UInt8 × HL)) (x : List UInt8 × HL) : rowsP (rs ++ [x]) = rowsP rs ++ (x.1 ++ [13, 10]) := by
  unfold rowsP
  rw [List.flatMap_append]
  simp
theorem rowsP_len : ∀ {rs : List (List UInt8 × HL)}, (∀ x ∈ rs, RowIn x) → (rowsP rs).length ≤ 15 * rs.length
  | [], _ => Nat.zero_le _
  | x :: r, h => by
    have h1 := rowsP_len (rs := r) (fun y hy => h y (List.mem_cons_of_mem _ hy))
    have h2 := (h x (by simp)).2.2
    unfold rowsP at h1 ⊢
    rw [List.flatMap_cons, List.length_append, List.length_append, List.length_cons]
    simp only [List.length_cons, List.length_nil]
    omega
theorem rows_told : ∀ {rs : List (List UInt8 × HL)}, (∀ x ∈ rs, RowIn x) → toldL (rs.map (·.2)) = []
  | [], _ => rfl
  | x :: r, h => by
    rw [List.map_cons, toldL_cons, rows_told (fun y hy => h y (List.mem_cons_of_mem _ hy)), if_neg (by rw [(h x (by simp)).2.1]; decide)]
def topT (rs : List (List UInt8 × HL)) : List UInt8 := firstL 200 ++ [13, 10] ++ rowsP rs
theorem topT_len {rs : List (List UInt8 × HL)} (h : ∀ x ∈ rs, RowIn x) (h2 : rs.length ≤ 10) : (topT rs).length ≤ 200 := by
  have h3 := rowsP_len h
  unfold topT firstL
  rw [dd200]
  simp only [List.length_append, List.length_cons, List.length_nil, show httpL.length = 9 from rfl]
  omega
theorem topT_more (rs : List (List UInt8 × HL)) (n p v q : List UInt8) : strOf (topT rs) ++ (strOf n ++ ⟨#[58]⟩ ++ strOf p ++ strOf v ++ strOf q ++ ⟨#[13, 10]⟩) = strOf (topT (rs ++ [rowOf n p v q])) := by
  unfold topT rowOf
  rw [rowsP_more, show (ByteArray.mk #[58]) = strOf [58] from rfl, show (ByteArray.mk #[13, 10]) = strOf [13, 10] from rfl]
  simp only [strOf_append, List.append_assoc]
theorem topT_end (rs : List (List UInt8 × HL)) (b : List UInt8) : topT rs ++ [13, 10] ++ b = firstL 200 ++ 13 :: 10 :: rowsT rs b := by
  rw [rowsT_eq]
  unfold topT
  simp
theorem heads_out {rs : List (List UInt8 × HL)} (h : ∀ x ∈ rs, RowIn x) (b : List UInt8) :
    (8 < rs.length → errR (topT rs ++ [13, 10] ++ b) = 2) ∧ (rs.length ≤ 8 → outR (topT rs ++ [13, 10] ++ b) = ⟨200, rs.map (·.2), b, false⟩ ∧ errR (topT rs ++ [13, 10] ++ b) = 0) := by
  rw [topT_end]
  have hp := parse_rows (n := 200) (by decide) (by decide) rs b (fun x hx => (h x hx).1)
  rw [rows_told h] at hp
  constructor
  · intro h8
    rw [if_neg (by omega)] at hp
    exact (out_none hp).2
  · intro h8
    rw [if_pos h8] at hp
    exact out_some hp
set_option maxRecDepth 100000 in
set_option maxHeartbeats 40000000 in
theorem rheads_spec {w0 w : World} {I : Imm} {L : Own} (hst : St w0 w I L) (hM : MaxK I) {vl : Value} {ls : List Int} (hl : RdI I vl ls) (hls : ∀ x ∈ ls, i64ok x) (hll : ls.length ≤ 9223372036854775807) (body : ByteArray) (hb : body.size ≤ 1048576) :
    Calls Tryd.prog 3 #[vl, .string body] w fun e w' => e = .returned (.bool true) ∧ ∃ I', I.le I' ∧ St w0 w' I' L := by
  refine enter Tryd.func3 rfl (N := 115) rfl rfl ?_
  simp only [List.zipIdx_cons, List.zipIdx_nil, List.map_cons, List.map_nil, Nat.zero_add, Nat.reduceAdd]
  have hle := Imm.le.refl I
  refine CW.seq ?_
  -- region 0
  refine CW.region ?_
  refine RW.op1 rfl (runs_assign rfl) ?_
  refine RW.done ?_
  refine AQ.next ?_
  refine CW.seq ?_
  -- region 1
  refine CW.region ?_
  refine RW.op1 rfl (runs_assign rfl) ?_
  refine RW.done ?_
  refine AQ.next ?_
  refine CW.seq ?_
  -- region 2
  refine CW.region ?_
  refine RW.op1 rfl (runs_assign rfl) ?_
  refine RW.done ?_
  refine AQ.next ?_
  refine CW.seq ?_
  refine CW.seq ?_
  -- region 3
  refine CW.region ?_
  refine RW.op1 rfl (runs_assign rfl) ?_
  refine RW.done ?_
  refine AQ.next ?_
  refine CW.block ?_
  -- loop 1
  refine CW.loop (Nat × Imm × Value × Own × List (List UInt8 × HL)) (fun x w => I.le x.2.1 ∧ MaxK x.2.1 ∧ RdI x.2.1 vl ls ∧ St w0 w x.2.1 (x.2.2.2.1 ++ L) ∧ Grow 27 2 x.2.2.1 x.2.2.2.2.length (((x.2.2.2.2.map (·.2)).map hrowL).flatMap hrow) x.2.2.2.1 ∧ x.2.2.2.2.length = x.1 ∧ x.1 ≤ 10 ∧ ∀ r ∈ x.2.2.2.2, RowIn r) (fun x => [(0, vl), (1, .string body), (5, .string (strOf (topT x.2.2.2.2))), (6, x.2.2.1), (7, .int .i64 (x.1 : Nat))]) (fun x => 10 - x.1) ⟨(0, _, _, [], []), ⟨hle, hM, hl, hst, Grow.nil _ _, rfl, Nat.zero_le _, by simp⟩, ⟨rfl, rfl, by unfold topT firstL; rw [dd200]; rfl, rfl, rfl, trivial⟩⟩ ?_
  clear hle hM hl
  rintro ⟨k, I2, v2, Lv2, rs⟩ w ⟨hle, hM, hl, hstn, hg2, hrk, hk10, hrs⟩
  dsimp only at hle hM hl hstn hg2 hrk hk10 hrs ⊢
  clear hst
  have hst := hstn
  clear hstn
  have htl := topT_len hrs (by omega)
  refine CW.seq ?_
  refine CW.seq ?_
  -- region 4
  refine CW.cut Unit (fun _ w => St w0 w I2 (Lv2 ++ L)) (fun _ => [(0, vl), (1, .string body), (5, .string (strOf (topT rs))), (6, v2), (7, .int .i64 (k : Nat)), (18, .bool (decide (k < ls.length ∧ k < 10)))]) ?_ ?_
  · -- region 4
    refine CW.region ?_
    refine RW.op1 rfl (runs_move rfl) ?_
    refine RW.op1 rfl (runs_move rfl) ?_
    refine RW.op1 rfl (RdL.len Tryd.underlying22 rfl hl) ?_
    refine RW.op1 rfl (runs_lss rfl rfl) ?_
    refine RW.op1 rfl (runs_move rfl) ?_
    refine RW.split (t := 15) rfl (fun hb15 => ?_) (fun hb15 => ?_)
    · have hb15p := hb15
      try simp only [decide_eq_true_eq, decide_eq_false_iff_not] at hb15p
      refine RW.on_guard rfl rfl rfl rfl hb15 ?_
      refine RW.op1 rfl (runs_move rfl) ?_
      refine RW.on_guard rfl rfl rfl rfl hb15 ?_
      refine RW.op1 rfl (runs_lss rfl rfl) ?_
      refine RW.op1 rfl (runs_pick_true rfl hb15 rfl) ?_
      refine RW.done ?_
      exact AQ.meet () hst ⟨rfl, rfl, rfl, rfl, rfl, boolN (by simp only [decide_eq_true_eq, Bool.false_eq_true, false_iff]; omega), trivial⟩
    · have hb15p := hb15
      try simp only [decide_eq_true_eq, decide_eq_false_iff_not] at hb15p
      refine RW.off_guard rfl rfl rfl rfl hb15 ?_
      refine RW.off_guard rfl rfl rfl rfl hb15 ?_
      refine RW.op1 rfl (runs_pick_false rfl hb15 rfl) ?_
      refine RW.done ?_
      exact AQ.meet () hst ⟨rfl, rfl, rfl, rfl, rfl, boolN (by simp only [decide_eq_true_eq, Bool.false_eq_true, false_iff]; omega), trivial⟩
  · rintro _ w hstn
    clear hst
    have hst := hstn
    clear hstn
    refine AQ.next ?_
    refine CW.cond rfl (fun hc18 => ?_) (fun hc18 => ?_)
    · have hcb18 := hc18
      try simp only [decide_eq_true_eq, decide_eq_false_iff_not] at hc18
      have hlt : k < ls.length ∧ k < 10 := of_decide_eq_true hcb18
      have hk0 : (0 : Int) ≤ (k : Nat) := Int.natCast_nonneg k
      have hkl : ((k : Nat) : Int) < (ls.length : Nat) := by omega
      obtain ⟨x, hx⟩ : ∃ x, iat ls (k : Int) = x := ⟨_, rfl⟩
      have hxok : i64ok x := by rw [← hx, iat_get hlt.1]; exact hls _ (List.getElem_mem _)
      obtain ⟨j0, hj0⟩ : ∃ j, within x 4 = j := ⟨_, rfl⟩
      have r0 := within_range x 4
      rw [hj0] at r0
      have r0t := r0.2 (by decide)
      have r0z := r0.1
      obtain ⟨n0, hn0, en0⟩ := sat_of (l := nmL) r0z r0t
      have zn0 := nm_sz n0 hn0
      obtain ⟨j1, hj1⟩ : ∃ j, within (IntKind.i64.wrap (x.tdiv 4)) 4 = j := ⟨_, rfl⟩
      have r1 := within_range (IntKind.i64.wrap (x.tdiv 4)) 4
      rw [hj1] at r1
      have r1t := r1.2 (by decide)
      have r1z := r1.1
      obtain ⟨v0, hv0, ev0⟩ := sat_of (l := valL) r1z r1t
      have zv0 := val_sz v0 hv0
      obtain ⟨j2, hj2⟩ : ∃ j, within (IntKind.i64.wrap (x.tdiv 16)) 3 = j := ⟨_, rfl⟩
      have r2 := within_range (IntKind.i64.wrap (x.tdiv 16)) 3
      rw [hj2] at r2
      have r2t := r2.2 (by decide)
      have r2z := r2.1
      obtain ⟨p0, hp0, ep0⟩ := sat_of (l := prL) r2z r2t
      have zp0 := pr_sz p0 hp0
      obtain ⟨j3, hj3⟩ : ∃ j, within (IntKind.i64.wrap (x.tdiv 48)) 2 = j := ⟨_, rfl⟩
      have r3 := within_range (IntKind.i64.wrap (x.tdiv 48)) 2
      rw [hj3] at r3
      have r3t := r3.2 (by decide)
      have r3z := r3.1
      obtain ⟨q0, hq0, eq0⟩ := sat_of (l := poL) r3z r3t
      have zq0 := po_sz q0 hq0
      have hgr := rows_good hn0 hp0 hv0 hq0
      refine CW.skip ?_
      refine AQ.next ?_
      refine CW.seq ?_
      refine CW.block ?_
      refine CW.seq ?_
      -- region 6
      refine CW.cut (Imm × Nat) (fun y w => I.le y.1 ∧ MaxK y.1 ∧ RdI y.1 vl ls ∧ St w0 w y.1 ((y.2, Obj.cells (Value.agg #[.string (strOf n0), .string (strOf v0)]).cells 27) :: (Lv2 ++ L))) (fun y => [(0, vl), (1, .string body), (5, .string (strOf (topT rs))), (6, v2), (7, .int .i64 (k : Nat)), (8, .pointer (some ⟨y.2, 0, none⟩))]) ?_ ?_
      · -- region 6
        refine CW.drawV hst (.q 1 (.q 2 (.q 3 (.q 4 (.q 9 (.q 10 (.q 11 (.q 12 (.q 13 (.fork (.l 0 (.fork (.l 5 (.q 6 (.q 7 (.fork (.l 8 (.fork (.l 14 (.q 15 (.q 16 (.q 17 (.l 18 (.l 19 .nil)))))) (.l 18 (.l 14 (.q 15 (.q 16 (.q 17 (.l 19 .nil)))))))) (.fork (.l 14 (.fork (.l 8 (.q 15 (.q 16 (.q 17 (.l 18 (.l 19 .nil)))))) (.l 18 (.l 8 (.q 15 (.q 16 (.q 17 (.l 19 .nil)))))))) (.l 18 (.fork (.l 8 (.l 14 (.q 15 (.q 16 (.q 17 (.l 19 .nil)))))) (.l 14 (.l 8 (.q 15 (.q 16 (.q 17 (.l 19 .nil))))))))))))) (.fork (.l 8 (.fork (.l 5 (.q 6 (.q 7 (.fork (.l 14 (.q 15 (.q 16 (.q 17 (.l 18 (.l 19 .nil)))))) (.l 18 (.l 14 (.q 15 (.q 16 (.q 17 (.l 19 .nil)))))))))) (.l 18 (.l 5 (.q 6 (.q 7 (.l 14 (.q 15 (.q 16 (.q 17 (.l 19 .nil))))))))))) (.l 18 (.fork (.l 5 (.q 6 (.q 7 (.fork (.l 8 (.l 14 (.q 15 (.q 16 (.q 17 (.l 19 .nil)))))) (.l 14 (.l 8 (.q 15 (.q 16 (.q 17 (.l 19 .nil)))))))))) (.l 8 (.l 5 (.q 6 (.q 7 (.l 14 (.q 15 (.q 16 (.q 17 (.l 19 .nil)))))))))))))) (.fork (.l 5 (.fork (.l 0 (.q 6 (.q 7 (.fork (.l 8 (.fork (.l 14 (.q 15 (.q 16 (.q 17 (.l 18 (.l 19 .nil)))))) (.l 18 (.l 14 (.q 15 (.q 16 (.q 17 (.l 19 .nil)))))))) (.fork (.l 14 (.fork (.l 8 (.q 15 (.q 16 (.q 17 (.l 18 (.l 19 .nil)))))) (.l 18 (.l 8 (.q 15 (.q 16 (.q 17 (.l 19 .nil)))))))) (.l 18 (.fork (.l 8 (.l 14 (.q 15 (.q 16 (.q 17 (.l 19 .nil)))))) (.l 14 (.l 8 (.q 15 (.q 16 (.q 17 (.l 19 .nil))))))))))))) (.fork (.l 8 (.fork (.l 0 (.q 6 (.q 7 (.fork (.l 14 (.q 15 (.q 16 (.q 17 (.l 18 (.l 19 .nil)))))) (.l 18 (.l 14 (.q 15 (.q 16 (.q 17 (.l 19 .nil)))))))))) (.fork (.l 14 (.q 15 (.q 16 (.fork (.l 0 (.q 6 (.q 7 (.q 17 (.l 18 (.l 19 .nil)))))) (.l 18 (.l 0 (.q 6 (.q 7 (.q 17 (.l 19 .nil)))))))))) (.l 18 (.fork (.l 0 (.q 6 (.q 7 (.l 14 (.q 15 (.q 16 (.q 17 (.l 19 .nil)))))))) (.l 14 (.q 15 (.q 16 (.l 0 (.q 6 (.q 7 (.q 17 (.l 19 .nil))))))))))))) (.fork (.l 14 (.fork (.l 0 (.q 6 (.q 7 (.fork (.l 8 (.q 15 (.q 16 (.q 17 (.l 18 (.l 19 .nil)))))) (.l 18 (.l 8 (.q 15 (.q 16 (.q 17 (.l 19 .nil)))))))))) (.fork (.l 8 (.q 15 (.q 16 (.fork (.l 0 (.q 6 (.q 7 (.q 17 (.l 18 (.l 19 .nil)))))) (.l 18 (.l 0 (.q 6 (.q 7 (.q 17 (.l 19 .nil)))))))))) (.l 18 (.fork (.l 0 (.q 6 (.q 7 (.l 8 (.q 15 (.q 16 (.q 17 (.l 19 .nil)))))))) (.l 8 (.q 15 (.q 16 (.l 0 (.q 6 (.q 7 (.q 17 (.l 19 .nil))))))))))))) (.l 18 (.fork (.l 0 (.q 6 (.q 7 (.fork (.l 8 (.l 14 (.q 15 (.q 16 (.q 17 (.l 19 .nil)))))) (.l 14 (.l 8 (.q 15 (.q 16 (.q 17 (.l 19 .nil)))))))))) (.fork (.l 8 (.fork (.l 0 (.q 6 (.q 7 (.l 14 (.q 15 (.q 16 (.q 17 (.l 19 .nil)))))))) (.l 14 (.q 15 (.q 16 (.l 0 (.q 6 (.q 7 (.q 17 (.l 19 .nil)))))))))) (.l 14 (.fork (.l 0 (.q 6 (.q 7 (.l 8 (.q 15 (.q 16 (.q 17 (.l 19 .nil)))))))) (.l 8 (.q 15 (.q 16 (.l 0 (.q 6 (.q 7 (.q 17 (.l 19 .nil))))))))))))))))) (.fork (.l 8 (.fork (.l 0 (.fork (.l 5 (.q 6 (.q 7 (.fork (.l 14 (.q 15 (.q 16 (.q 17 (.l 18 (.l 19 .nil)))))) (.l 18 (.l 14 (.q 15 (.q 16 (.q 17 (.l 19 .nil)))))))))) (.l 18 (.l 5 (.q 6 (.q 7 (.l 14 (.q 15 (.q 16 (.q 17 (.l 19 .nil))))))))))) (.fork (.l 5 (.fork (.l 0 (.q 6 (.q 7 (.fork (.l 14 (.q 15 (.q 16 (.q 17 (.l 18 (.l 19 .nil)))))) (.l 18 (.l 14 (.q 15 (.q 16 (.q 17 (.l 19 .nil)))))))))) (.fork (.l 14 (.q 15 (.q 16 (.fork (.l 0 (.q 6 (.q 7 (.q 17 (.l 18 (.l 19 .nil)))))) (.l 18 (.l 0 (.q 6 (.q 7 (.q 17 (.l 19 .nil)))))))))) (.l 18 (.fork (.l 0 (.q 6 (.q 7 (.l 14 (.q 15 (.q 16 (.q 17 (.l 19 .nil)))))))) (.l 14 (.q 15 (.q 16 (.l 0 (.q 6 (.q 7 (.q 17 (.l 19 .nil))))))))))))) (.l 18 (.fork (.l 0 (.l 5 (.q 6 (.q 7 (.l 14 (.q 15 (.q 16 (.q 17 (.l 19 .nil))))))))) (.l 5 (.fork (.l 0 (.q 6 (.q 7 (.l 14 (.q 15 (.q 16 (.q 17 (.l 19 .nil)))))))) (.l 14 (.q 15 (.q 16 (.l 0 (.q 6 (.q 7 (.q 17 (.l 19 .nil))))))))))))))) (.l 18 (.fork (.l 0 (.fork (.l 5 (.q 6 (.q 7 (.fork (.l 8 (.l 14 (.q 15 (.q 16 (.q 17 (.l 19 .nil)))))) (.l 14 (.l 8 (.q 15 (.q 16 (.q 17 (.l 19 .nil)))))))))) (.l 8 (.l 5 (.q 6 (.q 7 (.l 14 (.q 15 (.q 16 (.q 17 (.l 19 .nil))))))))))) (.fork (.l 5 (.fork (.l 0 (.q 6 (.q 7 (.fork (.l 8 (.l 14 (.q 15 (.q 16 (.q 17 (.l 19 .nil)))))) (.l 14 (.l 8 (.q 15 (.q 16 (.q 17 (.l 19 .nil)))))))))) (.fork (.l 8 (.fork (.l 0 (.q 6 (.q 7 (.l 14 (.q 15 (.q 16 (.q 17 (.l 19 .nil)))))))) (.l 14 (.q 15 (.q 16 (.l 0 (.q 6 (.q 7 (.q 17 (.l 19 .nil)))))))))) (.l 14 (.fork (.l 0 (.q 6 (.q 7 (.l 8 (.q 15 (.q 16 (.q 17 (.l 19 .nil)))))))) (.l 8 (.q 15 (.q 16 (.l 0 (.q 6 (.q 7 (.q 17 (.l 19 .nil))))))))))))) (.l 8 (.fork (.l 0 (.l 5 (.q 6 (.q 7 (.l 14 (.q 15 (.q 16 (.q 17 (.l 19 .nil))))))))) (.l 5 (.fork (.l 0 (.q 6 (.q 7 (.l 14 (.q 15 (.q 16 (.q 17 (.l 19 .nil)))))))) (.l 14 (.q 15 (.q 16 (.l 0 (.q 6 (.q 7 (.q 17 (.l 19 .nil))))))))))))))))))))))))))) follows (by kernel_rfl) (fun w hst => ?_)
        refine DRV.q rfl rfl (fun w' hF => runs_move rfl) ?_
        refine DRV.q rfl rfl (fun w' hF => runs_move rfl) ?_
        refine DRV.q rfl rfl (fun w' hF => RdL.indexAddr Tryd.underlying22 ti3 (by decide) rfl rfl hl ⟨hk0, hkl⟩) ?_
        refine DRV.q rfl rfl (FSt.load1 sc3 rfl (RdI.at hl hk0 hkl)) ?_
        rw [hx]
        refine DRV.q rfl rfl (fun w' hF => runs_move rfl) ?_
        refine DRV.q rfl rfl (fun w' hF => runs_move rfl) ?_
        refine DRV.q rfl rfl (fun w' hF => RdL.indexAddr Tryd.underlying22 ti3 (by decide) rfl rfl hl ⟨hk0, hkl⟩) ?_
        refine DRV.q rfl rfl (FSt.load1 sc3 rfl (RdI.at hl hk0 hkl)) ?_
        rw [hx]
        refine DRV.q rfl rfl (fun w' hF => runs_quo rfl rfl (by decide)) ?_
        refine DRV.fork ?_ ?_
        · refine DRV.opE rfl rfl (runs_lit1R Tryd.underlying24 ti9 (by decide) rfl rfl rfl (by simp [Value.oneCell']) hst) ?_
          rintro u1 w ⟨I1, hI1, hstn, h1⟩
          clear hst
          have hst := hstn
          clear hstn
          replace hM := hM.mono hI1
          replace hl := hl.mono hI1
          replace hle := hle.trans hI1
          refine ⟨FSt w0 _ (Lv2 ++ L), FSt.lift hI1, FSt.of hst (Imm.le.refl _) (by simp), ?_⟩
          have hN : RdS _ u1 (nmL.map strOf) := h1
          refine DRV.fork ?_ ?_
          · refine DRV.call rfl rfl call8 rfl rfl (within_spec hst (v := x) (n := 4) hxok (by unfold i64ok; decide)) ?_
            rintro e w ⟨rfl, hstn⟩
            clear hst
            have hst := hstn
            clear hstn
            rw [hj0]
            refine ⟨_, rfl, FSt w0 _ (Lv2 ++ L), FSt.lift (Imm.le.refl _), FSt.of hst (Imm.le.refl _) (by simp), ?_⟩
            refine DRV.q rfl rfl (fun w' hF => RdL.indexAddr Tryd.underlying24 ti9 (by decide) rfl rfl hN ⟨r0z, r0t⟩) ?_
            refine DRV.q rfl rfl (FSt.load1 sc9 rfl (RdS.at hN r0z r0t)) ?_
            rw [en0]
            refine DRV.fork ?_ ?_
            · refine DRV.opE rfl rfl (runs_lit1R Tryd.underlying24 ti9 (by decide) rfl rfl rfl (by simp [Value.oneCell']) hst) ?_
              rintro u3 w ⟨I3, hI3, hstn, h3⟩
              clear hst
              have hst := hstn
              clear hstn
              replace hM := hM.mono hI3
              replace hl := hl.mono hI3
              replace h1 := h1.mono hI3
              replace hN := hN.mono hI3
              replace hle := hle.trans hI3
              refine ⟨FSt w0 _ (Lv2 ++ L), FSt.lift hI3, FSt.of hst (Imm.le.refl _) (by simp), ?_⟩
              have hV : RdS _ u3 (valL.map strOf) := h3
              refine DRV.fork ?_ ?_
              · refine DRV.call rfl rfl call8 rfl rfl (within_spec hst (v := IntKind.i64.wrap (x.tdiv 4)) (n := 4) (wrap_ok _) (by unfold i64ok; decide)) ?_
                rintro e w ⟨rfl, hstn⟩
                clear hst
                have hst := hstn
                clear hstn
                rw [hj1]
                refine ⟨_, rfl, FSt w0 _ (Lv2 ++ L), FSt.lift (Imm.le.refl _), FSt.of hst (Imm.le.refl _) (by simp), ?_⟩
                refine DRV.q rfl rfl (fun w' hF => RdL.indexAddr Tryd.underlying24 ti9 (by decide) rfl rfl hV ⟨r1z, r1t⟩) ?_
                refine DRV.q rfl rfl (FSt.load1 sc9 rfl (RdS.at hV r1z r1t)) ?_
                rw [ev0]
                refine DRV.q rfl rfl (fun w' hF => runs_buildF (cells := [_, _]) bz27 rfl rfl rfl rfl rfl) ?_
                refine DRV.opE rfl rfl (runs_alloc ti27 hst) ?_
                rintro _ w ⟨b5, rfl, hstn⟩
                clear hst
                have hst := hstn
                clear hstn
                refine ⟨FSt w0 _ (Lv2 ++ L), FSt.lift (Imm.le.refl _), FSt.of hst (Imm.le.refl _) (by simp), ?_⟩
                first
                  | refine DRV.opE0 rfl (runs_storeW ti27 rfl rfl hst (k := 0) rfl rfl rfl (NoFz.zero _) rfl) ?_
                  | refine DRV.opE0 rfl (runs_storeP ti27 rfl rfl hst (k := 0) rfl rfl rfl (NoFz.zero _) rfl) ?_
                  | refine DRV.opE0 rfl (runs_storeW ti27 rfl rfl hst (k := 1) rfl rfl rfl (NoFz.zero _) rfl) ?_
                  | refine DRV.opE0 rfl (runs_storeP ti27 rfl rfl hst (k := 1) rfl rfl rfl (NoFz.zero _) rfl) ?_
                  | refine DRV.opE0 rfl (runs_storeW ti27 rfl rfl hst (k := 2) rfl rfl rfl (NoFz.zero _) rfl) ?_
                  | refine DRV.opE0 rfl (runs_storeP ti27 rfl rfl hst (k := 2) rfl rfl rfl (NoFz.zero _) rfl) ?_
                rintro w hstn
                clear hst
                have hst := hstn
                clear hstn
                try simp only [List.set_cons_zero, List.set_cons_succ] at hst
                refine ⟨FSt w0 _ (Lv2 ++ L), FSt.lift (Imm.le.refl _), FSt.of hst (Imm.le.refl _) (by simp), ?_⟩
                refine DRV.done ?_
                exact AQ.meet (_, _) ⟨hle, hM, hl, hst⟩ ⟨rfl, rfl, rfl, rfl, rfl, rfl, trivial⟩
              refine DRV.opE rfl rfl (runs_alloc ti27 hst) ?_
              rintro _ w ⟨b7, rfl, hstn⟩
              clear hst
              have hst := hstn
              clear hstn
              refine ⟨FSt w0 _ (Lv2 ++ L), FSt.lift (Imm.le.refl _), FSt.of hst (Imm.le.refl _) (by simp), ?_⟩
              refine DRV.call rfl rfl call8 rfl rfl (within_spec hst (v := IntKind.i64.wrap (x.tdiv 4)) (n := 4) (wrap_ok _) (by unfold i64ok; decide)) ?_
              rintro e w ⟨rfl, hstn⟩
              clear hst
              have hst := hstn
              clear hstn
              rw [hj1]
              refine ⟨_, rfl, FSt w0 _ (Lv2 ++ L), FSt.lift (Imm.le.refl _), FSt.of hst (Imm.le.refl _) (by simp), ?_⟩
              refine DRV.q rfl rfl (fun w' hF => RdL.indexAddr Tryd.underlying24 ti9 (by decide) rfl rfl hV ⟨r1z, r1t⟩) ?_
              refine DRV.q rfl rfl (FSt.load1 sc9 rfl (RdS.at hV r1z r1t)) ?_
              rw [ev0]
              refine DRV.q rfl rfl (fun w' hF => runs_buildF (cells := [_, _]) bz27 rfl rfl rfl rfl rfl) ?_
              first
                | refine DRV.opE0 rfl (runs_storeW ti27 rfl rfl hst (k := 0) rfl rfl rfl (NoFz.zero _) rfl) ?_
                | refine DRV.opE0 rfl (runs_storeP ti27 rfl rfl hst (k := 0) rfl rfl rfl (NoFz.zero _) rfl) ?_
                | refine DRV.opE0 rfl (runs_storeW ti27 rfl rfl hst (k := 1) rfl rfl rfl (NoFz.zero _) rfl) ?_
                | refine DRV.opE0 rfl (runs_storeP ti27 rfl rfl hst (k := 1) rfl rfl rfl (NoFz.zero _) rfl) ?_
                | refine DRV.opE0 rfl (runs_storeW ti27 rfl rfl hst (k := 2) rfl rfl rfl (NoFz.zero _) rfl) ?_
                | refine DRV.opE0 rfl (runs_storeP ti27 rfl rfl hst (k := 2) rfl rfl rfl (NoFz.zero _) rfl) ?_
              rintro w hstn
              clear hst
              have hst := hstn
              clear hstn
              try simp only [List.set_cons_zero, List.set_cons_succ] at hst
              refine ⟨FSt w0 _ (Lv2 ++ L), FSt.lift (Imm.le.refl _), FSt.of hst (Imm.le.refl _) (by simp), ?_⟩
              refine DRV.done ?_
              exact AQ.meet (_, _) ⟨hle, hM, hl, hst⟩ ⟨rfl, rfl, rfl, rfl, rfl, rfl, trivial⟩
            refine DRV.fork ?_ ?_
            · refine DRV.call rfl rfl call8 rfl rfl (within_spec hst (v := IntKind.i64.wrap (x.tdiv 4)) (n := 4) (wrap_ok _) (by unfold i64ok; decide)) ?_
              rintro e w ⟨rfl, hstn⟩
              clear hst
              have hst := hstn
              clear hstn
              rw [hj1]
              refine ⟨_, rfl, FSt w0 _ (Lv2 ++ L), FSt.lift (Imm.le.refl _), FSt.of hst (Imm.le.refl _) (by simp), ?_⟩
              refine DRV.fork ?_ ?_
              · refine DRV.opE rfl rfl (runs_lit1R Tryd.underlying24 ti9 (by decide) rfl rfl rfl (by simp [Value.oneCell']) hst) ?_
                rintro u11 w ⟨I11, hI11, hstn, h11⟩
                clear hst
                have hst := hstn
                clear hstn
                replace hM := hM.mono hI11
                replace hl := hl.mono hI11
                replace h1 := h1.mono hI11
                replace hN := hN.mono hI11
                replace hle := hle.trans hI11
                refine ⟨FSt w0 _ (Lv2 ++ L), FSt.lift hI11, FSt.of hst (Imm.le.refl _) (by simp), ?_⟩
                have hV : RdS _ u11 (valL.map strOf) := h11
                refine DRV.q rfl rfl (fun w' hF => RdL.indexAddr Tryd.underlying24 ti9 (by decide) rfl rfl hV ⟨r1z, r1t⟩) ?_
                refine DRV.q rfl rfl (FSt.load1 sc9 rfl (RdS.at hV r1z r1t)) ?_
                rw [ev0]
                refine DRV.q rfl rfl (fun w' hF => runs_buildF (cells := [_, _]) bz27 rfl rfl rfl rfl rfl) ?_
                refine DRV.opE rfl rfl (runs_alloc ti27 hst) ?_
                rintro _ w ⟨b12, rfl, hstn⟩
                clear hst
                have hst := hstn
                clear hstn
                refine ⟨FSt w0 _ (Lv2 ++ L), FSt.lift (Imm.le.refl _), FSt.of hst (Imm.le.refl _) (by simp), ?_⟩
                first
                  | refine DRV.opE0 rfl (runs_storeW ti27 rfl rfl hst (k := 0) rfl rfl rfl (NoFz.zero _) rfl) ?_
                  | refine DRV.opE0 rfl (runs_storeP ti27 rfl rfl hst (k := 0) rfl rfl rfl (NoFz.zero _) rfl) ?_
                  | refine DRV.opE0 rfl (runs_storeW ti27 rfl rfl hst (k := 1) rfl rfl rfl (NoFz.zero _) rfl) ?_
                  | refine DRV.opE0 rfl (runs_storeP ti27 rfl rfl hst (k := 1) rfl rfl rfl (NoFz.zero _) rfl) ?_
                  | refine DRV.opE0 rfl (runs_storeW ti27 rfl rfl hst (k := 2) rfl rfl rfl (NoFz.zero _) rfl) ?_
                  | refine DRV.opE0 rfl (runs_storeP ti27 rfl rfl hst (k := 2) rfl rfl rfl (NoFz.zero _) rfl) ?_
                rintro w hstn
                clear hst
                have hst := hstn
                clear hstn
                try simp only [List.set_cons_zero, List.set_cons_succ] at hst
                refine ⟨FSt w0 _ (Lv2 ++ L), FSt.lift (Imm.le.refl _), FSt.of hst (Imm.le.refl _) (by simp), ?_⟩
                refine DRV.done ?_
                exact AQ.meet (_, _) ⟨hle, hM, hl, hst⟩ ⟨rfl, rfl, rfl, rfl, rfl, rfl, trivial⟩
              refine DRV.opE rfl rfl (runs_alloc ti27 hst) ?_
              rintro _ w ⟨b14, rfl, hstn⟩
              clear hst
              have hst := hstn
              clear hstn
              refine ⟨FSt w0 _ (Lv2 ++ L), FSt.lift (Imm.le.refl _), FSt.of hst (Imm.le.refl _) (by simp), ?_⟩
              refine DRV.opE rfl rfl (runs_lit1R Tryd.underlying24 ti9 (by decide) rfl rfl rfl (by simp [Value.oneCell']) hst) ?_
              rintro u15 w ⟨I15, hI15, hstn, h15⟩
              clear hst
              have hst := hstn
              clear hstn
              replace hM := hM.mono hI15
              replace hl := hl.mono hI15
              replace h1 := h1.mono hI15
              replace hN := hN.mono hI15
              replace hle := hle.trans hI15
              refine ⟨FSt w0 _ (Lv2 ++ L), FSt.lift hI15, FSt.of hst (Imm.le.refl _) (by simp), ?_⟩
              have hV : RdS _ u15 (valL.map strOf) := h15
              refine DRV.q rfl rfl (fun w' hF => RdL.indexAddr Tryd.underlying24 ti9 (by decide) rfl rfl hV ⟨r1z, r1t⟩) ?_
              refine DRV.q rfl rfl (FSt.load1 sc9 rfl (RdS.at hV r1z r1t)) ?_
              rw [ev0]
              refine DRV.q rfl rfl (fun w' hF => runs_buildF (cells := [_, _]) bz27 rfl rfl rfl rfl rfl) ?_
              first
                | refine DRV.opE0 rfl (runs_storeW ti27 rfl rfl hst (k := 0) rfl rfl rfl (NoFz.zero _) rfl) ?_
                | refine DRV.opE0 rfl (runs_storeP ti27 rfl rfl hst (k := 0) rfl rfl rfl (NoFz.zero _) rfl) ?_
                | refine DRV.opE0 rfl (runs_storeW ti27 rfl rfl hst (k := 1) rfl rfl rfl (NoFz.zero _) rfl) ?_
                | refine DRV.opE0 rfl (runs_storeP ti27 rfl rfl hst (k := 1) rfl rfl rfl (NoFz.zero _) rfl) ?_
                | refine DRV.opE0 rfl (runs_storeW ti27 rfl rfl hst (k := 2) rfl rfl rfl (NoFz.zero _) rfl) ?_
                | refine DRV.opE0 rfl (runs_storeP ti27 rfl rfl hst (k := 2) rfl rfl rfl (NoFz.zero _) rfl) ?_
              rintro w hstn
              clear hst
              have hst := hstn
              clear hstn
              try simp only [List.set_cons_zero, List.set_cons_succ] at hst
              refine ⟨FSt w0 _ (Lv2 ++ L), FSt.lift (Imm.le.refl _), FSt.of hst (Imm.le.refl _) (by simp), ?_⟩
              refine DRV.done ?_
              exact AQ.meet (_, _) ⟨hle, hM, hl, hst⟩ ⟨rfl, rfl, rfl, rfl, rfl, rfl, trivial⟩
            refine DRV.opE rfl rfl (runs_alloc ti27 hst) ?_
            rintro _ w ⟨b17, rfl, hstn⟩
            clear hst
            have hst := hstn
            clear hstn
            refine ⟨FSt w0 _ (Lv2 ++ L), FSt.lift (Imm.le.refl _), FSt.of hst (Imm.le.refl _) (by simp), ?_⟩
            refine DRV.fork ?_ ?_
            · refine DRV.opE rfl rfl (runs_lit1R Tryd.underlying24 ti9 (by decide) rfl rfl rfl (by simp [Value.oneCell']) hst) ?_
              rintro u18 w ⟨I18, hI18, hstn, h18⟩
              clear hst
              have hst := hstn
              clear hstn
              replace hM := hM.mono hI18
              replace hl := hl.mono hI18
              replace h1 := h1.mono hI18
              replace hN := hN.mono hI18
              replace hle := hle.trans hI18
              refine ⟨FSt w0 _ (Lv2 ++ L), FSt.lift hI18, FSt.of hst (Imm.le.refl _) (by simp), ?_⟩
              have hV : RdS _ u18 (valL.map strOf) := h18
              refine DRV.call rfl rfl call8 rfl rfl (within_spec hst (v := IntKind.i64.wrap (x.tdiv 4)) (n := 4) (wrap_ok _) (by unfold i64ok; decide)) ?_
              rintro e w ⟨rfl, hstn⟩
              clear hst
              have hst := hstn
              clear hstn
              rw [hj1]
              refine ⟨_, rfl, FSt w0 _ (Lv2 ++ L), FSt.lift (Imm.le.refl _), FSt.of hst (Imm.le.refl _) (by simp), ?_⟩
              refine DRV.q rfl rfl (fun w' hF => RdL.indexAddr Tryd.underlying24 ti9 (by decide) rfl rfl hV ⟨r1z, r1t⟩) ?_
              refine DRV.q rfl rfl (FSt.load1 sc9 rfl (RdS.at hV r1z r1t)) ?_
              rw [ev0]
              refine DRV.q rfl rfl (fun w' hF => runs_buildF (cells := [_, _]) bz27 rfl rfl rfl rfl rfl) ?_
              first
                | refine DRV.opE0 rfl (runs_storeW ti27 rfl rfl hst (k := 0) rfl rfl rfl (NoFz.zero _) rfl) ?_
                | refine DRV.opE0 rfl (runs_storeP ti27 rfl rfl hst (k := 0) rfl rfl rfl (NoFz.zero _) rfl) ?_
                | refine DRV.opE0 rfl (runs_storeW ti27 rfl rfl hst (k := 1) rfl rfl rfl (NoFz.zero _) rfl) ?_
                | refine DRV.opE0 rfl (runs_storeP ti27 rfl rfl hst (k := 1) rfl rfl rfl (NoFz.zero _) rfl) ?_
                | refine DRV.opE0 rfl (runs_storeW ti27 rfl rfl hst (k := 2) rfl rfl rfl (NoFz.zero _) rfl) ?_
                | refine DRV.opE0 rfl (runs_storeP ti27 rfl rfl hst (k := 2) rfl rfl rfl (NoFz.zero _) rfl) ?_
              rintro w hstn
              clear hst
              have hst := hstn
              clear hstn
              try simp only [List.set_cons_zero, List.set_cons_succ] at hst
              refine ⟨FSt w0 _ (Lv2 ++ L), FSt.lift (Imm.le.refl _), FSt.of hst (Imm.le.refl _) (by simp), ?_⟩
              refine DRV.done ?_
              exact AQ.meet (_, _) ⟨hle, hM, hl, hst⟩ ⟨rfl, rfl, rfl, rfl, rfl, rfl, trivial⟩
            refine DRV.call rfl rfl call8 rfl rfl (within_spec hst (v := IntKind.i64.wrap (x.tdiv 4)) (n := 4) (wrap_ok _) (by unfold i64ok; decide)) ?_
            rintro e w ⟨rfl, hstn⟩
            clear hst
            have hst := hstn
            clear hstn
            rw [hj1]
            refine ⟨_, rfl, FSt w0 _ (Lv2 ++ L), FSt.lift (Imm.le.refl _), FSt.of hst (Imm.le.refl _) (by simp), ?_⟩
            refine DRV.opE rfl rfl (runs_lit1R Tryd.underlying24 ti9 (by decide) rfl rfl rfl (by simp [Value.oneCell']) hst) ?_
            rintro u22 w ⟨I22, hI22, hstn, h22⟩
            clear hst
            have hst := hstn
            clear hstn
            replace hM := hM.mono hI22
            replace hl := hl.mono hI22
            replace h1 := h1.mono hI22
            replace hN := hN.mono hI22
            replace hle := hle.trans hI22
            refine ⟨FSt w0 _ (Lv2 ++ L), FSt.lift hI22, FSt.of hst (Imm.le.refl _) (by simp), ?_⟩
            have hV : RdS _ u22 (valL.map strOf) := h22
            refine DRV.q rfl rfl (fun w' hF => RdL.indexAddr Tryd.underlying24 ti9 (by decide) rfl rfl hV ⟨r1z, r1t⟩) ?_
            refine DRV.q rfl rfl (FSt.load1 sc9 rfl (RdS.at hV r1z r1t)) ?_
            rw [ev0]
            refine DRV.q rfl rfl (fun w' hF => runs_buildF (cells := [_, _]) bz27 rfl rfl rfl rfl rfl) ?_
            first
              | refine DRV.opE0 rfl (runs_storeW ti27 rfl rfl hst (k := 0) rfl rfl rfl (NoFz.zero _) rfl) ?_
              | refine DRV.opE0 rfl (runs_storeP ti27 rfl rfl hst (k := 0) rfl rfl rfl (NoFz.zero _) rfl) ?_
              | refine DRV.opE0 rfl (runs_storeW ti27 rfl rfl hst (k := 1) rfl rfl rfl (NoFz.zero _) rfl) ?_
              | refine DRV.opE0 rfl (runs_storeP ti27 rfl rfl hst (k := 1) rfl rfl rfl (NoFz.zero _) rfl) ?_
              | refine DRV.opE0 rfl (runs_storeW ti27 rfl rfl hst (k := 2) rfl rfl rfl (NoFz.zero _) rfl) ?_
              | refine DRV.opE0 rfl (runs_storeP ti27 rfl rfl hst (k := 2) rfl rfl rfl (NoFz.zero _) rfl) ?_
            rintro w hstn
            clear hst
            have hst := hstn
            clear hstn
            try simp only [List.set_cons_zero, List.set_cons_succ] at hst
            refine ⟨FSt w0 _ (Lv2 ++ L), FSt.lift (Imm.le.refl _), FSt.of hst (Imm.le.refl _) (by simp), ?_⟩
            refine DRV.done ?_
            exact AQ.meet (_, _) ⟨hle, hM, hl, hst⟩ ⟨rfl, rfl, rfl, rfl, rfl, rfl, trivial⟩
          refine DRV.fork ?_ ?_
          · refine DRV.opE rfl rfl (runs_lit1R Tryd.underlying24 ti9 (by decide) rfl rfl rfl (by simp [Value.oneCell']) hst) ?_
            rintro u24 w ⟨I24, hI24, hstn, h24⟩
            clear hst
            have hst := hstn
            clear hstn
            replace hM := hM.mono hI24
            replace hl := hl.mono hI24
            replace h1 := h1.mono hI24
            replace hN := hN.mono hI24
            replace hle := hle.trans hI24
            refine ⟨FSt w0 _ (Lv2 ++ L), FSt.lift hI24, FSt.of hst (Imm.le.refl _) (by simp), ?_⟩
            have hV : RdS _ u24 (valL.map strOf) := h24
            refine DRV.fork ?_ ?_
            · refine DRV.call rfl rfl call8 rfl rfl (within_spec hst (v := x) (n := 4) hxok (by unfold i64ok; decide)) ?_
              rintro e w ⟨rfl, hstn⟩
              clear hst
              have hst := hstn
              clear hstn
              rw [hj0]
              refine ⟨_, rfl, FSt w0 _ (Lv2 ++ L), FSt.lift (Imm.le.refl _), FSt.of hst (Imm.le.refl _) (by simp), ?_⟩
              refine DRV.q rfl rfl (fun w' hF => RdL.indexAddr Tryd.underlying24 ti9 (by decide) rfl rfl hN ⟨r0z, r0t⟩) ?_
              refine DRV.q rfl rfl (FSt.load1 sc9 rfl (RdS.at hN r0z r0t)) ?_
              rw [en0]
              refine DRV.fork ?_ ?_
              · refine DRV.call rfl rfl call8 rfl rfl (within_spec hst (v := IntKind.i64.wrap (x.tdiv 4)) (n := 4) (wrap_ok _) (by unfold i64ok; decide)) ?_
                rintro e w ⟨rfl, hstn⟩
                clear hst
                have hst := hstn
                clear hstn
                rw [hj1]
                refine ⟨_, rfl, FSt w0 _ (Lv2 ++ L), FSt.lift (Imm.le.refl _), FSt.of hst (Imm.le.refl _) (by simp), ?_⟩
                refine DRV.q rfl rfl (fun w' hF => RdL.indexAddr Tryd.underlying24 ti9 (by decide) rfl rfl hV ⟨r1z, r1t⟩) ?_
                refine DRV.q rfl rfl (FSt.load1 sc9 rfl (RdS.at hV r1z r1t)) ?_
                rw [ev0]
                refine DRV.q rfl rfl (fun w' hF => runs_buildF (cells := [_, _]) bz27 rfl rfl rfl rfl rfl) ?_
                refine DRV.opE rfl rfl (runs_alloc ti27 hst) ?_
                rintro _ w ⟨b27, rfl, hstn⟩
                clear hst
                have hst := hstn
                clear hstn
                refine ⟨FSt w0 _ (Lv2 ++ L), FSt.lift (Imm.le.refl _), FSt.of hst (Imm.le.refl _) (by simp), ?_⟩
                first
                  | refine DRV.opE0 rfl (runs_storeW ti27 rfl rfl hst (k := 0) rfl rfl rfl (NoFz.zero _) rfl) ?_
                  | refine DRV.opE0 rfl (runs_storeP ti27 rfl rfl hst (k := 0) rfl rfl rfl (NoFz.zero _) rfl) ?_
                  | refine DRV.opE0 rfl (runs_storeW ti27 rfl rfl hst (k := 1) rfl rfl rfl (NoFz.zero _) rfl) ?_
                  | refine DRV.opE0 rfl (runs_storeP ti27 rfl rfl hst (k := 1) rfl rfl rfl (NoFz.zero _) rfl) ?_
                  | refine DRV.opE0 rfl (runs_storeW ti27 rfl rfl hst (k := 2) rfl rfl rfl (NoFz.zero _) rfl) ?_
                  | refine DRV.opE0 rfl (runs_storeP ti27 rfl rfl hst (k := 2) rfl rfl rfl (NoFz.zero _) rfl) ?_
                rintro w hstn
                clear hst
                have hst := hstn
                clear hstn
                try simp only [List.set_cons_zero, List.set_cons_succ] at hst
                refine ⟨FSt w0 _ (Lv2 ++ L), FSt.lift (Imm.le.refl _), FSt.of hst (Imm.le.refl _) (by simp), ?_⟩
                refine DRV.done ?_
                exact AQ.meet (_, _) ⟨hle, hM, hl, hst⟩ ⟨rfl, rfl, rfl, rfl, rfl, rfl, trivial⟩
              refine DRV.opE rfl rfl (runs_alloc ti27 hst) ?_
              rintro _ w ⟨b29, rfl, hstn⟩
              clear hst
              have hst := hstn
              clear hstn
              refine ⟨FSt w0 _ (Lv2 ++ L), FSt.lift (Imm.le.refl _), FSt.of hst (Imm.le.refl _) (by simp), ?_⟩
              refine DRV.call rfl rfl call8 rfl rfl (within_spec hst (v := IntKind.i64.wrap (x.tdiv 4)) (n := 4) (wrap_ok _) (by unfold i64ok; decide)) ?_
              rintro e w ⟨rfl, hstn⟩
              clear hst
              have hst := hstn
              clear hstn
              rw [hj1]
              refine ⟨_, rfl, FSt w0 _ (Lv2 ++ L), FSt.lift (Imm.le.refl _), FSt.of hst (Imm.le.refl _) (by simp), ?_⟩
              refine DRV.q rfl rfl (fun w' hF => RdL.indexAddr Tryd.underlying24 ti9 (by decide) rfl rfl hV ⟨r1z, r1t⟩) ?_
              refine DRV.q rfl rfl (FSt.load1 sc9 rfl (RdS.at hV r1z r1t)) ?_
              rw [ev0]
              refine DRV.q rfl rfl (fun w' hF => runs_buildF (cells := [_, _]) bz27 rfl rfl rfl rfl rfl) ?_
              first
                | refine DRV.opE0 rfl (runs_storeW ti27 rfl rfl hst (k := 0) rfl rfl rfl (NoFz.zero _) rfl) ?_
                | refine DRV.opE0 rfl (runs_storeP ti27 rfl rfl hst (k := 0) rfl rfl rfl (NoFz.zero _) rfl) ?_
                | refine DRV.opE0 rfl (runs_storeW ti27 rfl rfl hst (k := 1) rfl rfl rfl (NoFz.zero _) rfl) ?_
                | refine DRV.opE0 rfl (runs_storeP ti27 rfl rfl hst (k := 1) rfl rfl rfl (NoFz.zero _) rfl) ?_
                | refine DRV.opE0 rfl (runs_storeW ti27 rfl rfl hst (k := 2) rfl rfl rfl (NoFz.zero _) rfl) ?_
                | refine DRV.opE0 rfl (runs_storeP ti27 rfl rfl hst (k := 2) rfl rfl rfl (NoFz.zero _) rfl) ?_
              rintro w hstn
              clear hst
              have hst := hstn
              clear hstn
              try simp only [List.set_cons_zero, List.set_cons_succ] at hst
              refine ⟨FSt w0 _ (Lv2 ++ L), FSt.lift (Imm.le.refl _), FSt.of hst (Imm.le.refl _) (by simp), ?_⟩
              refine DRV.done ?_
              exact AQ.meet (_, _) ⟨hle, hM, hl, hst⟩ ⟨rfl, rfl, rfl, rfl, rfl, rfl, trivial⟩
            refine DRV.opE rfl rfl (runs_alloc ti27 hst) ?_
            rintro _ w ⟨b32, rfl, hstn⟩
            clear hst
            have hst := hstn
            clear hstn
            refine ⟨FSt w0 _ (Lv2 ++ L), FSt.lift (Imm.le.refl _), FSt.of hst (Imm.le.refl _) (by simp), ?_⟩
            refine DRV.call rfl rfl call8 rfl rfl (within_spec hst (v := x) (n := 4) hxok (by unfold i64ok; decide)) ?_
            rintro e w ⟨rfl, hstn⟩
            clear hst
            have hst := hstn
            clear hstn
            rw [hj0]
            refine ⟨_, rfl, FSt w0 _ (Lv2 ++ L), FSt.lift (Imm.le.refl _), FSt.of hst (Imm.le.refl _) (by simp), ?_⟩
            refine DRV.q rfl rfl (fun w' hF => RdL.indexAddr Tryd.underlying24 ti9 (by decide) rfl rfl hN ⟨r0z, r0t⟩) ?_
            refine DRV.q rfl rfl (FSt.load1 sc9 rfl (RdS.at hN r0z r0t)) ?_
            rw [en0]
            refine DRV.call rfl rfl call8 rfl rfl (within_spec hst (v := IntKind.i64.wrap (x.tdiv 4)) (n := 4) (wrap_ok _) (by unfold i64ok; decide)) ?_
            rintro e w ⟨rfl, hstn⟩
            clear hst
            have hst := hstn
            clear hstn
            rw [hj1]
            refine ⟨_, rfl, FSt w0 _ (Lv2 ++ L), FSt.lift (Imm.le.refl _), FSt.of hst (Imm.le.refl _) (by simp), ?_⟩
            refine DRV.q rfl rfl (fun w' hF => RdL.indexAddr Tryd.underlying24 ti9 (by decide) rfl rfl hV ⟨r1z, r1t⟩) ?_
            refine DRV.q rfl rfl (FSt.load1 sc9 rfl (RdS.at hV r1z r1t)) ?_
            rw [ev0]
            refine DRV.q rfl rfl (fun w' hF => runs_buildF (cells := [_, _]) bz27 rfl rfl rfl rfl rfl) ?_
            first
              | refine DRV.opE0 rfl (runs_storeW ti27 rfl rfl hst (k := 0) rfl rfl rfl (NoFz.zero _) rfl) ?_
              | refine DRV.opE0 rfl (runs_storeP ti27 rfl rfl hst (k := 0) rfl rfl rfl (NoFz.zero _) rfl) ?_
              | refine DRV.opE0 rfl (runs_storeW ti27 rfl rfl hst (k := 1) rfl rfl rfl (NoFz.zero _) rfl) ?_
              | refine DRV.opE0 rfl (runs_storeP ti27 rfl rfl hst (k := 1) rfl rfl rfl (NoFz.zero _) rfl) ?_
              | refine DRV.opE0 rfl (runs_storeW ti27 rfl rfl hst (k := 2) rfl rfl rfl (NoFz.zero _) rfl) ?_
              | refine DRV.opE0 rfl (runs_storeP ti27 rfl rfl hst (k := 2) rfl rfl rfl (NoFz.zero _) rfl) ?_
            rintro w hstn
            clear hst
            have hst := hstn
            clear hstn
            try simp only [List.set_cons_zero, List.set_cons_succ] at hst
            refine ⟨FSt w0 _ (Lv2 ++ L), FSt.lift (Imm.le.refl _), FSt.of hst (Imm.le.refl _) (by simp), ?_⟩
            refine DRV.done ?_
            exact AQ.meet (_, _) ⟨hle, hM, hl, hst⟩ ⟨rfl, rfl, rfl, rfl, rfl, rfl, trivial⟩
          refine DRV.opE rfl rfl (runs_alloc ti27 hst) ?_
          rintro _ w ⟨b36, rfl, hstn⟩
          clear hst
          have hst := hstn
          clear hstn
          refine ⟨FSt w0 _ (Lv2 ++ L), FSt.lift (Imm.le.refl _), FSt.of hst (Imm.le.refl _) (by simp), ?_⟩
          refine DRV.fork ?_ ?_
          · refine DRV.call rfl rfl call8 rfl rfl (within_spec hst (v := x) (n := 4) hxok (by unfold i64ok; decide)) ?_
            rintro e w ⟨rfl, hstn⟩
            clear hst
            have hst := hstn
            clear hstn
            rw [hj0]
            refine ⟨_, rfl, FSt w0 _ (Lv2 ++ L), FSt.lift (Imm.le.refl _), FSt.of hst (Imm.le.refl _) (by simp), ?_⟩
            refine DRV.q rfl rfl (fun w' hF => RdL.indexAddr Tryd.underlying24 ti9 (by decide) rfl rfl hN ⟨r0z, r0t⟩) ?_
            refine DRV.q rfl rfl (FSt.load1 sc9 rfl (RdS.at hN r0z r0t)) ?_
            rw [en0]
            refine DRV.fork ?_ ?_
            · refine DRV.opE rfl rfl (runs_lit1R Tryd.underlying24 ti9 (by decide) rfl rfl rfl (by simp [Value.oneCell']) hst) ?_
              rintro u38 w ⟨I38, hI38, hstn, h38⟩
              clear hst
              have hst := hstn
              clear hstn
              replace hM := hM.mono hI38
              replace hl := hl.mono hI38
              replace h1 := h1.mono hI38
              replace hN := hN.mono hI38
              replace hle := hle.trans hI38
              refine ⟨FSt w0 _ (Lv2 ++ L), FSt.lift hI38, FSt.of hst (Imm.le.refl _) (by simp), ?_⟩
              have hV : RdS _ u38 (valL.map strOf) := h38
              refine DRV.call rfl rfl call8 rfl rfl (within_spec hst (v := IntKind.i64.wrap (x.tdiv 4)) (n := 4) (wrap_ok _) (by unfold i64ok; decide)) ?_
              rintro e w ⟨rfl, hstn⟩
              clear hst
              have hst := hstn
              clear hstn
              rw [hj1]
              refine ⟨_, rfl, FSt w0 _ (Lv2 ++ L), FSt.lift (Imm.le.refl _), FSt.of hst (Imm.le.refl _) (by simp), ?_⟩
              refine DRV.q rfl rfl (fun w' hF => RdL.indexAddr Tryd.underlying24 ti9 (by decide) rfl rfl hV ⟨r1z, r1t⟩) ?_
              refine DRV.q rfl rfl (FSt.load1 sc9 rfl (RdS.at hV r1z r1t)) ?_
              rw [ev0]
              refine DRV.q rfl rfl (fun w' hF => runs_buildF (cells := [_, _]) bz27 rfl rfl rfl rfl rfl) ?_
              first
                | refine DRV.opE0 rfl (runs_storeW ti27 rfl rfl hst (k := 0) rfl rfl rfl (NoFz.zero _) rfl) ?_
                | refine DRV.opE0 rfl (runs_storeP ti27 rfl rfl hst (k := 0) rfl rfl rfl (NoFz.zero _) rfl) ?_
                | refine DRV.opE0 rfl (runs_storeW ti27 rfl rfl hst (k := 1) rfl rfl rfl (NoFz.zero _) rfl) ?_
                | refine DRV.opE0 rfl (runs_storeP ti27 rfl rfl hst (k := 1) rfl rfl rfl (NoFz.zero _) rfl) ?_
                | refine DRV.opE0 rfl (runs_storeW ti27 rfl rfl hst (k := 2) rfl rfl rfl (NoFz.zero _) rfl) ?_
                | refine DRV.opE0 rfl (runs_storeP ti27 rfl rfl hst (k := 2) rfl rfl rfl (NoFz.zero _) rfl) ?_
              rintro w hstn
              clear hst
              have hst := hstn
              clear hstn
              try simp only [List.set_cons_zero, List.set_cons_succ] at hst
              refine ⟨FSt w0 _ (Lv2 ++ L), FSt.lift (Imm.le.refl _), FSt.of hst (Imm.le.refl _) (by simp), ?_⟩
              refine DRV.done ?_
              exact AQ.meet (_, _) ⟨hle, hM, hl, hst⟩ ⟨rfl, rfl, rfl, rfl, rfl, rfl, trivial⟩
            refine DRV.call rfl rfl call8 rfl rfl (within_spec hst (v := IntKind.i64.wrap (x.tdiv 4)) (n := 4) (wrap_ok _) (by unfold i64ok; decide)) ?_
            rintro e w ⟨rfl, hstn⟩
            clear hst
            have hst := hstn
            clear hstn
            rw [hj1]
            refine ⟨_, rfl, FSt w0 _ (Lv2 ++ L), FSt.lift (Imm.le.refl _), FSt.of hst (Imm.le.refl _) (by simp), ?_⟩
            refine DRV.opE rfl rfl (runs_lit1R Tryd.underlying24 ti9 (by decide) rfl rfl rfl (by simp [Value.oneCell']) hst) ?_
            rintro u42 w ⟨I42, hI42, hstn, h42⟩
            clear hst
            have hst := hstn
            clear hstn
            replace hM := hM.mono hI42
            replace hl := hl.mono hI42
            replace h1 := h1.mono hI42
            replace hN := hN.mono hI42
            replace hle := hle.trans hI42
            refine ⟨FSt w0 _ (Lv2 ++ L), FSt.lift hI42, FSt.of hst (Imm.le.refl _) (by simp), ?_⟩
            have hV : RdS _ u42 (valL.map strOf) := h42
            refine DRV.q rfl rfl (fun w' hF => RdL.indexAddr Tryd.underlying24 ti9 (by decide) rfl rfl hV ⟨r1z, r1t⟩) ?_
            refine DRV.q rfl rfl (FSt.load1 sc9 rfl (RdS.at hV r1z r1t)) ?_
            rw [ev0]
            refine DRV.q rfl rfl (fun w' hF => runs_buildF (cells := [_, _]) bz27 rfl rfl rfl rfl rfl) ?_
            first
              | refine DRV.opE0 rfl (runs_storeW ti27 rfl rfl hst (k := 0) rfl rfl rfl (NoFz.zero _) rfl) ?_
              | refine DRV.opE0 rfl (runs_storeP ti27 rfl rfl hst (k := 0) rfl rfl rfl (NoFz.zero _) rfl) ?_
              | refine DRV.opE0 rfl (runs_storeW ti27 rfl rfl hst (k := 1) rfl rfl rfl (NoFz.zero _) rfl) ?_
              | refine DRV.opE0 rfl (runs_storeP ti27 rfl rfl hst (k := 1) rfl rfl rfl (NoFz.zero _) rfl) ?_
              | refine DRV.opE0 rfl (runs_storeW ti27 rfl rfl hst (k := 2) rfl rfl rfl (NoFz.zero _) rfl) ?_
              | refine DRV.opE0 rfl (runs_storeP ti27 rfl rfl hst (k := 2) rfl rfl rfl (NoFz.zero _) rfl) ?_
            rintro w hstn
            clear hst
            have hst := hstn
            clear hstn
            try simp only [List.set_cons_zero, List.set_cons_succ] at hst
            refine ⟨FSt w0 _ (Lv2 ++ L), FSt.lift (Imm.le.refl _), FSt.of hst (Imm.le.refl _) (by simp), ?_⟩
            refine DRV.done ?_
            exact AQ.meet (_, _) ⟨hle, hM, hl, hst⟩ ⟨rfl, rfl, rfl, rfl, rfl, rfl, trivial⟩
          refine DRV.opE rfl rfl (runs_lit1R Tryd.underlying24 ti9 (by decide) rfl rfl rfl (by simp [Value.oneCell']) hst) ?_
          rintro u44 w ⟨I44, hI44, hstn, h44⟩
          clear hst
          have hst := hstn
          clear hstn
          replace hM := hM.mono hI44
          replace hl := hl.mono hI44
          replace h1 := h1.mono hI44
          replace hN := hN.mono hI44
          replace hle := hle.trans hI44
          refine ⟨FSt w0 _ (Lv2 ++ L), FSt.lift hI44, FSt.of hst (Imm.le.refl _) (by simp), ?_⟩
          have hV : RdS _ u44 (valL.map strOf) := h44
          refine DRV.call rfl rfl call8 rfl rfl (within_spec hst (v := x) (n := 4) hxok (by unfold i64ok; decide)) ?_
          rintro e w ⟨rfl, hstn⟩
          clear hst
          have hst := hstn
          clear hstn
          rw [hj0]
          refine ⟨_, rfl, FSt w0 _ (Lv2 ++ L), FSt.lift (Imm.le.refl _), FSt.of hst (Imm.le.refl _) (by simp), ?_⟩
          refine DRV.q rfl rfl (fun w' hF => RdL.indexAddr Tryd.underlying24 ti9 (by decide) rfl rfl hN ⟨r0z, r0t⟩) ?_
          refine DRV.q rfl rfl (FSt.load1 sc9 rfl (RdS.at hN r0z r0t)) ?_
          rw [en0]
          refine DRV.call rfl rfl call8 rfl rfl (within_spec hst (v := IntKind.i64.wrap (x.tdiv 4)) (n := 4) (wrap_ok _) (by unfold i64ok; decide)) ?_
          rintro e w ⟨rfl, hstn⟩
          clear hst
          have hst := hstn
          clear hstn
          rw [hj1]
          refine ⟨_, rfl, FSt w0 _ (Lv2 ++ L), FSt.lift (Imm.le.refl _), FSt.of hst (Imm.le.refl _) (by simp), ?_⟩
          refine DRV.q rfl rfl (fun w' hF => RdL.indexAddr Tryd.underlying24 ti9 (by decide) rfl rfl hV ⟨r1z, r1t⟩) ?_
          refine DRV.q rfl rfl (FSt.load1 sc9 rfl (RdS.at hV r1z r1t)) ?_
          rw [ev0]
          refine DRV.q rfl rfl (fun w' hF => runs_buildF (cells := [_, _]) bz27 rfl rfl rfl rfl rfl) ?_
          first
            | refine DRV.opE0 rfl (runs_storeW ti27 rfl rfl hst (k := 0) rfl rfl rfl (NoFz.zero _) rfl) ?_
            | refine DRV.opE0 rfl (runs_storeP ti27 rfl rfl hst (k := 0) rfl rfl rfl (NoFz.zero _) rfl) ?_
            | refine DRV.opE0 rfl (runs_storeW ti27 rfl rfl hst (k := 1) rfl rfl rfl (NoFz.zero _) rfl) ?_
            | refine DRV.opE0 rfl (runs_storeP ti27 rfl rfl hst (k := 1) rfl rfl rfl (NoFz.zero _) rfl) ?_
            | refine DRV.opE0 rfl (runs_storeW ti27 rfl rfl hst (k := 2) rfl rfl rfl (NoFz.zero _) rfl) ?_
            | refine DRV.opE0 rfl (runs_storeP ti27 rfl rfl hst (k := 2) rfl rfl rfl (NoFz.zero _) rfl) ?_
          rintro w hstn
          clear hst
          have hst := hstn
          clear hstn
          try simp only [List.set_cons_zero, List.set_cons_succ] at hst
          refine ⟨FSt w0 _ (Lv2 ++ L), FSt.lift (Imm.le.refl _), FSt.of hst (Imm.le.refl _) (by simp), ?_⟩
          refine DRV.done ?_
          exact AQ.meet (_, _) ⟨hle, hM, hl, hst⟩ ⟨rfl, rfl, rfl, rfl, rfl, rfl, trivial⟩
        refine DRV.fork ?_ ?_
        · refine DRV.call rfl rfl call8 rfl rfl (within_spec hst (v := x) (n := 4) hxok (by unfold i64ok; decide)) ?_
          rintro e w ⟨rfl, hstn⟩
          clear hst
          have hst := hstn
          clear hstn
          rw [hj0]
          refine ⟨_, rfl, FSt w0 _ (Lv2 ++ L), FSt.lift (Imm.le.refl _), FSt.of hst (Imm.le.refl _) (by simp), ?_⟩
          refine DRV.fork ?_ ?_
          · refine DRV.opE rfl rfl (runs_lit1R Tryd.underlying24 ti9 (by decide) rfl rfl rfl (by simp [Value.oneCell']) hst) ?_
            rintro u49 w ⟨I49, hI49, hstn, h49⟩
            clear hst
            have hst := hstn
            clear hstn
            replace hM := hM.mono hI49
            replace hl := hl.mono hI49
            replace hle := hle.trans hI49
            refine ⟨FSt w0 _ (Lv2 ++ L), FSt.lift hI49, FSt.of hst (Imm.le.refl _) (by simp), ?_⟩
            have hN : RdS _ u49 (nmL.map strOf) := h49
            refine DRV.q rfl rfl (fun w' hF => RdL.indexAddr Tryd.underlying24 ti9 (by decide) rfl rfl hN ⟨r0z, r0t⟩) ?_
            refine DRV.q rfl rfl (FSt.load1 sc9 rfl (RdS.at hN r0z r0t)) ?_
            rw [en0]
            refine DRV.fork ?_ ?_
            · refine DRV.opE rfl rfl (runs_lit1R Tryd.underlying24 ti9 (by decide) rfl rfl rfl (by simp [Value.oneCell']) hst) ?_
              rintro u50 w ⟨I50, hI50, hstn, h50⟩
              clear hst
              have hst := hstn
              clear hstn
              replace hM := hM.mono hI50
              replace hl := hl.mono hI50
              replace h49 := h49.mono hI50
              replace hN := hN.mono hI50
              replace hle := hle.trans hI50
              refine ⟨FSt w0 _ (Lv2 ++ L), FSt.lift hI50, FSt.of hst (Imm.le.refl _) (by simp), ?_⟩
              have hV : RdS _ u50 (valL.map strOf) := h50
              refine DRV.fork ?_ ?_
              · refine DRV.call rfl rfl call8 rfl rfl (within_spec hst (v := IntKind.i64.wrap (x.tdiv 4)) (n := 4) (wrap_ok _) (by unfold i64ok; decide)) ?_
                rintro e w ⟨rfl, hstn⟩
                clear hst
                have hst := hstn
                clear hstn
                rw [hj1]
                refine ⟨_, rfl, FSt w0 _ (Lv2 ++ L), FSt.lift (Imm.le.refl _), FSt.of hst (Imm.le.refl _) (by simp), ?_⟩
                refine DRV.q rfl rfl (fun w' hF => RdL.indexAddr Tryd.underlying24 ti9 (by decide) rfl rfl hV ⟨r1z, r1t⟩) ?_
                refine DRV.q rfl rfl (FSt.load1 sc9 rfl (RdS.at hV r1z r1t)) ?_
                rw [ev0]
                refine DRV.q rfl rfl (fun w' hF => runs_buildF (cells := [_, _]) bz27 rfl rfl rfl rfl rfl) ?_
                refine DRV.opE rfl rfl (runs_alloc ti27 hst) ?_
                rintro _ w ⟨b52, rfl, hstn⟩
                clear hst
                have hst := hstn
                clear hstn
                refine ⟨FSt w0 _ (Lv2 ++ L), FSt.lift (Imm.le.refl _), FSt.of hst (Imm.le.refl _) (by simp), ?_⟩
                first
                  | refine DRV.opE0 rfl (runs_storeW ti27 rfl rfl hst (k := 0) rfl rfl rfl (NoFz.zero _) rfl) ?_
                  | refine DRV.opE0 rfl (runs_storeP ti27 rfl rfl hst (k := 0) rfl rfl rfl (NoFz.zero _) rfl) ?_
                  | refine DRV.opE0 rfl (runs_storeW ti27 rfl rfl hst (k := 1) rfl rfl rfl (NoFz.zero _) rfl) ?_
                  | refine DRV.opE0 rfl (runs_storeP ti27 rfl rfl hst (k := 1) rfl rfl rfl (NoFz.zero _) rfl) ?_
                  | refine DRV.opE0 rfl (runs_storeW ti27 rfl rfl hst (k := 2) rfl rfl rfl (NoFz.zero _) rfl) ?_
                  | refine DRV.opE0 rfl (runs_storeP ti27 rfl rfl hst (k := 2) rfl rfl rfl (NoFz.zero _) rfl) ?_
                rintro w hstn
                clear hst
                have hst := hstn
                clear hstn
                try simp only [List.set_cons_zero, List.set_cons_succ] at hst
                refine ⟨FSt w0 _ (Lv2 ++ L), FSt.lift (Imm.le.refl _), FSt.of hst (Imm.le.refl _) (by simp), ?_⟩
                refine DRV.done ?_
                exact AQ.meet (_, _) ⟨hle, hM, hl, hst⟩ ⟨rfl, rfl, rfl, rfl, rfl, rfl, trivial⟩
              refine DRV.opE rfl rfl (runs_alloc ti27 hst) ?_
              rintro _ w ⟨b54, rfl, hstn⟩
              clear hst
              have hst := hstn
              clear hstn
              refine ⟨FSt w0 _ (Lv2 ++ L), FSt.lift (Imm.le.refl _), FSt.of hst (Imm.le.refl _) (by simp), ?_⟩
              refine DRV.call rfl rfl call8 rfl rfl (within_spec hst (v := IntKind.i64.wrap (x.tdiv 4)) (n := 4) (wrap_ok _) (by unfold i64ok; decide)) ?_
              rintro e w ⟨rfl, hstn⟩
              clear hst
              have hst := hstn
              clear hstn
              rw [hj1]
              refine ⟨_, rfl, FSt w0 _ (Lv2 ++ L), FSt.lift (Imm.le.refl _), FSt.of hst (Imm.le.refl _) (by simp), ?_⟩
              refine DRV.q rfl rfl (fun w' hF => RdL.indexAddr Tryd.underlying24 ti9 (by decide) rfl rfl hV ⟨r1z, r1t⟩) ?_
              refine DRV.q rfl rfl (FSt.load1 sc9 rfl (RdS.at hV r1z r1t)) ?_
              rw [ev0]
              refine DRV.q rfl rfl (fun w' hF => runs_buildF (cells := [_, _]) bz27 rfl rfl rfl rfl rfl) ?_
              first
                | refine DRV.opE0 rfl (runs_storeW ti27 rfl rfl hst (k := 0) rfl rfl rfl (NoFz.zero _) rfl) ?_
                | refine DRV.opE0 rfl (runs_storeP ti27 rfl rfl hst (k := 0) rfl rfl rfl (NoFz.zero _) rfl) ?_
                | refine DRV.opE0 rfl (runs_storeW ti27 rfl rfl hst (k := 1) rfl rfl rfl (NoFz.zero _) rfl) ?_
                | refine DRV.opE0 rfl (runs_storeP ti27 rfl rfl hst (k := 1) rfl rfl rfl (NoFz.zero _) rfl) ?_
                | refine DRV.opE0 rfl (runs_storeW ti27 rfl rfl hst (k := 2) rfl rfl rfl (NoFz.zero _) rfl) ?_
                | refine DRV.opE0 rfl (runs_storeP ti27 rfl rfl hst (k := 2) rfl rfl rfl (NoFz.zero _) rfl) ?_
              rintro w hstn
              clear hst
              have hst := hstn
              clear hstn
              try simp only [List.set_cons_zero, List.set_cons_succ] at hst
              refine ⟨FSt w0 _ (Lv2 ++ L), FSt.lift (Imm.le.refl _), FSt.of hst (Imm.le.refl _) (by simp), ?_⟩
              refine DRV.done ?_
              exact AQ.meet (_, _) ⟨hle, hM, hl, hst⟩ ⟨rfl, rfl, rfl, rfl, rfl, rfl, trivial⟩
            refine DRV.fork ?_ ?_
            · refine DRV.call rfl rfl call8 rfl rfl (within_spec hst (v := IntKind.i64.wrap (x.tdiv 4)) (n := 4) (wrap_ok _) (by unfold i64ok; decide)) ?_
              rintro e w ⟨rfl, hstn⟩
              clear hst
              have hst := hstn
              clear hstn
              rw [hj1]
              refine ⟨_, rfl, FSt w0 _ (Lv2 ++ L), FSt.lift (Imm.le.refl _), FSt.of hst (Imm.le.refl _) (by simp), ?_⟩
              refine DRV.fork ?_ ?_
              · refine DRV.opE rfl rfl (runs_lit1R Tryd.underlying24 ti9 (by decide) rfl rfl rfl (by simp [Value.oneCell']) hst) ?_
                rintro u58 w ⟨I58, hI58, hstn, h58⟩
                clear hst
                have hst := hstn
                clear hstn
                replace hM := hM.mono hI58
                replace hl := hl.mono hI58
                replace h49 := h49.mono hI58
                replace hN := hN.mono hI58
                replace hle := hle.trans hI58
                refine ⟨FSt w0 _ (Lv2 ++ L), FSt.lift hI58, FSt.of hst (Imm.le.refl _) (by simp), ?_⟩
                have hV : RdS _ u58 (valL.map strOf) := h58
                refine DRV.q rfl rfl (fun w' hF => RdL.indexAddr Tryd.underlying24 ti9 (by decide) rfl rfl hV ⟨r1z, r1t⟩) ?_
                refine DRV.q rfl rfl (FSt.load1 sc9 rfl (RdS.at hV r1z r1t)) ?_
                rw [ev0]
                refine DRV.q rfl rfl (fun w' hF => runs_buildF (cells := [_, _]) bz27 rfl rfl rfl rfl rfl) ?_
                refine DRV.opE rfl rfl (runs_alloc ti27 hst) ?_
                rintro _ w ⟨b59, rfl, hstn⟩
                clear hst
                have hst := hstn
                clear hstn
                refine ⟨FSt w0 _ (Lv2 ++ L), FSt.lift (Imm.le.refl _), FSt.of hst (Imm.le.refl _) (by simp), ?_⟩
                first
                  | refine DRV.opE0 rfl (runs_storeW ti27 rfl rfl hst (k := 0) rfl rfl rfl (NoFz.zero _) rfl) ?_
                  | refine DRV.opE0 rfl (runs_storeP ti27 rfl rfl hst (k := 0) rfl rfl rfl (NoFz.zero _) rfl) ?_
                  | refine DRV.opE0 rfl (runs_storeW ti27 rfl rfl hst (k := 1) rfl rfl rfl (NoFz.zero _) rfl) ?_
                  | refine DRV.opE0 rfl (runs_storeP ti27 rfl rfl hst (k := 1) rfl rfl rfl (NoFz.zero _) rfl) ?_
                  | refine DRV.opE0 rfl (runs_storeW ti27 rfl rfl hst (k := 2) rfl rfl rfl (NoFz.zero _) rfl) ?_
                  | refine DRV.opE0 rfl (runs_storeP ti27 rfl rfl hst (k := 2) rfl rfl rfl (NoFz.zero _) rfl) ?_
                rintro w hstn
                clear hst
                have hst := hstn
                clear hstn
                try simp only [List.set_cons_zero, List.set_cons_succ] at hst
                refine ⟨FSt w0 _ (Lv2 ++ L), FSt.lift (Imm.le.refl _), FSt.of hst (Imm.le.refl _) (by simp), ?_⟩
                refine DRV.done ?_
                exact AQ.meet (_, _) ⟨hle, hM, hl, hst⟩ ⟨rfl, rfl, rfl, rfl, rfl, rfl, trivial⟩
              refine DRV.opE rfl rfl (runs_alloc ti27 hst) ?_
              rintro _ w ⟨b61, rfl, hstn⟩
              clear hst
              have hst := hstn
              clear hstn
              refine ⟨FSt w0 _ (Lv2 ++ L), FSt.lift (Imm.le.refl _), FSt.of hst (Imm.le.refl _) (by simp), ?_⟩
              refine DRV.opE rfl rfl (runs_lit1R Tryd.underlying24 ti9 (by decide) rfl rfl rfl (by simp [Value.oneCell']) hst) ?_
              rintro u62 w ⟨I62, hI62, hstn, h62⟩
              clear hst
              have hst := hstn
              clear hstn
              replace hM := hM.mono hI62
              replace hl := hl.mono hI62
              replace h49 := h49.mono hI62
              replace hN := hN.mono hI62
              replace hle := hle.trans hI62
              refine ⟨FSt w0 _ (Lv2 ++ L), FSt.lift hI62, FSt.of hst (Imm.le.refl _) (by simp), ?_⟩
              have hV : RdS _ u62 (valL.map strOf) := h62
              refine DRV.q rfl rfl (fun w' hF => RdL.indexAddr Tryd.underlying24 ti9 (by decide) rfl rfl hV ⟨r1z, r1t⟩) ?_
              refine DRV.q rfl rfl (FSt.load1 sc9 rfl (RdS.at hV r1z r1t)) ?_
              rw [ev0]
              refine DRV.q rfl rfl (fun w' hF => runs_buildF (cells := [_, _]) bz27 rfl rfl rfl rfl rfl) ?_
              first
                | refine DRV.opE0 rfl (runs_storeW ti27 rfl rfl hst (k := 0) rfl rfl rfl (NoFz.zero _) rfl) ?_
                | refine DRV.opE0 rfl (runs_storeP ti27 rfl rfl hst (k := 0) rfl rfl rfl (NoFz.zero _) rfl) ?_
                | refine DRV.opE0 rfl (runs_storeW ti27 rfl rfl hst (k := 1) rfl rfl rfl (NoFz.zero _) rfl) ?_
                | refine DRV.opE0 rfl (runs_storeP ti27 rfl rfl hst (k := 1) rfl rfl rfl (NoFz.zero _) rfl) ?_
                | refine DRV.opE0 rfl (runs_storeW ti27 rfl rfl hst (k := 2) rfl rfl rfl (NoFz.zero _) rfl) ?_
                | refine DRV.opE0 rfl (runs_storeP ti27 rfl rfl hst (k := 2) rfl rfl rfl (NoFz.zero _) rfl) ?_
              rintro w hstn
              clear hst
              have hst := hstn
              clear hstn
              try simp only [List.set_cons_zero, List.set_cons_succ] at hst
              refine ⟨FSt w0 _ (Lv2 ++ L), FSt.lift (Imm.le.refl _), FSt.of hst (Imm.le.refl _) (by simp), ?_⟩
              refine DRV.done ?_
              exact AQ.meet (_, _) ⟨hle, hM, hl, hst⟩ ⟨rfl, rfl, rfl, rfl, rfl, rfl, trivial⟩
            refine DRV.opE rfl rfl (runs_alloc ti27 hst) ?_
            rintro _ w ⟨b64, rfl, hstn⟩
            clear hst
            have hst := hstn
            clear hstn
            refine ⟨FSt w0 _ (Lv2 ++ L), FSt.lift (Imm.le.refl _), FSt.of hst (Imm.le.refl _) (by simp), ?_⟩
            refine DRV.fork ?_ ?_
            · refine DRV.opE rfl rfl (runs_lit1R Tryd.underlying24 ti9 (by decide) rfl rfl rfl (by simp [Value.oneCell']) hst) ?_
              rintro u65 w ⟨I65, hI65, hstn, h65⟩
              clear hst
              have hst := hstn
              clear hstn
              replace hM := hM.mono hI65
              replace hl := hl.mono hI65
              replace h49 := h49.mono hI65
              replace hN := hN.mono hI65
              replace hle := hle.trans hI65
              refine ⟨FSt w0 _ (Lv2 ++ L), FSt.lift hI65, FSt.of hst (Imm.le.refl _) (by simp), ?_⟩
              have hV : RdS _ u65 (valL.map strOf) := h65
              refine DRV.call rfl rfl call8 rfl rfl (within_spec hst (v := IntKind.i64.wrap (x.tdiv 4)) (n := 4) (wrap_ok _) (by unfold i64ok; decide)) ?_
              rintro e w ⟨rfl, hstn⟩
              clear hst
              have hst := hstn
              clear hstn
              rw [hj1]
              refine ⟨_, rfl, FSt w0 _ (Lv2 ++ L), FSt.lift (Imm.le.refl _), FSt.of hst (Imm.le.refl _) (by simp), ?_⟩
              refine DRV.q rfl rfl (fun w' hF => RdL.indexAddr Tryd.underlying24 ti9 (by decide) rfl rfl hV ⟨r1z, r1t⟩) ?_
              refine DRV.q rfl rfl (FSt.load1 sc9 rfl (RdS.at hV r1z r1t)) ?_
              rw [ev0]
              refine DRV.q rfl rfl (fun w' hF => runs_buildF (cells := [_, _]) bz27 rfl rfl rfl rfl rfl) ?_
              first
                | refine DRV.opE0 rfl (runs_storeW ti27 rfl rfl hst (k := 0) rfl rfl rfl (NoFz.zero _) rfl) ?_
                | refine DRV.opE0 rfl (runs_storeP ti27 rfl rfl hst (k := 0) rfl rfl rfl (NoFz.zero _) rfl) ?_
                | refine DRV.opE0 rfl (runs_storeW ti27 rfl rfl hst (k := 1) rfl rfl rfl (NoFz.zero _) rfl) ?_
                | refine DRV.opE0 rfl (runs_storeP ti27 rfl rfl hst (k := 1) rfl rfl rfl (NoFz.zero _) rfl) ?_
                | refine DRV.opE0 rfl (runs_storeW ti27 rfl rfl hst (k := 2) rfl rfl rfl (NoFz.zero _) rfl) ?_
                | refine DRV.opE0 rfl (runs_storeP ti27 rfl rfl hst (k := 2) rfl rfl rfl (NoFz.zero _) rfl) ?_
              rintro w hstn
              clear hst
              have hst := hstn
              clear hstn
              try simp only [List.set_cons_zero, List.set_cons_succ] at hst
              refine ⟨FSt w0 _ (Lv2 ++ L), FSt.lift (Imm.le.refl _), FSt.of hst (Imm.le.refl _) (by simp), ?_⟩
              refine DRV.done ?_
              exact AQ.meet (_, _) ⟨hle, hM, hl, hst⟩ ⟨rfl, rfl, rfl, rfl, rfl, rfl, trivial⟩
            refine DRV.call rfl rfl call8 rfl rfl (within_spec hst (v := IntKind.i64.wrap (x.tdiv 4)) (n := 4) (wrap_ok _) (by unfold i64ok; decide)) ?_
            rintro e w ⟨rfl, hstn⟩
            clear hst
            have hst := hstn
            clear hstn
            rw [hj1]
            refine ⟨_, rfl, FSt w0 _ (Lv2 ++ L), FSt.lift (Imm.le.refl _), FSt.of hst (Imm.le.refl _) (by simp), ?_⟩
            refine DRV.opE rfl rfl (runs_lit1R Tryd.underlying24 ti9 (by decide) rfl rfl rfl (by simp [Value.oneCell']) hst) ?_
            rintro u69 w ⟨I69, hI69, hstn, h69⟩
            clear hst
            have hst := hstn
            clear hstn
            replace hM := hM.mono hI69
            replace hl := hl.mono hI69
            replace h49 := h49.mono hI69
            replace hN := hN.mono hI69
            replace hle := hle.trans hI69
            refine ⟨FSt w0 _ (Lv2 ++ L), FSt.lift hI69, FSt.of hst (Imm.le.refl _) (by simp), ?_⟩
            have hV : RdS _ u69 (valL.map strOf) := h69
            refine DRV.q rfl rfl (fun w' hF => RdL.indexAddr Tryd.underlying24 ti9 (by decide) rfl rfl hV ⟨r1z, r1t⟩) ?_
            refine DRV.q rfl rfl (FSt.load1 sc9 rfl (RdS.at hV r1z r1t)) ?_
            rw [ev0]
            refine DRV.q rfl rfl (fun w' hF => runs_buildF (cells := [_, _]) bz27 rfl rfl rfl rfl rfl) ?_
            first
              | refine DRV.opE0 rfl (runs_storeW ti27 rfl rfl hst (k := 0) rfl rfl rfl (NoFz.zero _) rfl) ?_
              | refine DRV.opE0 rfl (runs_storeP ti27 rfl rfl hst (k := 0) rfl rfl rfl (NoFz.zero _) rfl) ?_
              | refine DRV.opE0 rfl (runs_storeW ti27 rfl rfl hst (k := 1) rfl rfl rfl (NoFz.zero _) rfl) ?_
              | refine DRV.opE0 rfl (runs_storeP ti27 rfl rfl hst (k := 1) rfl rfl rfl (NoFz.zero _) rfl) ?_
              | refine DRV.opE0 rfl (runs_storeW ti27 rfl rfl hst (k := 2) rfl rfl rfl (NoFz.zero _) rfl) ?_
              | refine DRV.opE0 rfl (runs_storeP ti27 rfl rfl hst (k := 2) rfl rfl rfl (NoFz.zero _) rfl) ?_
            rintro w hstn
            clear hst
            have hst := hstn
            clear hstn
            try simp only [List.set_cons_zero, List.set_cons_succ] at hst
            refine ⟨FSt w0 _ (Lv2 ++ L), FSt.lift (Imm.le.refl _), FSt.of hst (Imm.le.refl _) (by simp), ?_⟩
            refine DRV.done ?_
            exact AQ.meet (_, _) ⟨hle, hM, hl, hst⟩ ⟨rfl, rfl, rfl, rfl, rfl, rfl, trivial⟩
          refine DRV.fork ?_ ?_
          · refine DRV.opE rfl rfl (runs_lit1R Tryd.underlying24 ti9 (by decide) rfl rfl rfl (by simp [Value.oneCell']) hst) ?_
            rintro u71 w ⟨I71, hI71, hstn, h71⟩
            clear hst
            have hst := hstn
            clear hstn
            replace hM := hM.mono hI71
            replace hl := hl.mono hI71
            replace hle := hle.trans hI71
            refine ⟨FSt w0 _ (Lv2 ++ L), FSt.lift hI71, FSt.of hst (Imm.le.refl _) (by simp), ?_⟩
            have hV : RdS _ u71 (valL.map strOf) := h71
            refine DRV.fork ?_ ?_
            · refine DRV.opE rfl rfl (runs_lit1R Tryd.underlying24 ti9 (by decide) rfl rfl rfl (by simp [Value.oneCell']) hst) ?_
              rintro u72 w ⟨I72, hI72, hstn, h72⟩
              clear hst
              have hst := hstn
              clear hstn
              replace hM := hM.mono hI72
              replace hl := hl.mono hI72
              replace h71 := h71.mono hI72
              replace hV := hV.mono hI72
              replace hle := hle.trans hI72
              refine ⟨FSt w0 _ (Lv2 ++ L), FSt.lift hI72, FSt.of hst (Imm.le.refl _) (by simp), ?_⟩
              have hN : RdS _ u72 (nmL.map strOf) := h72
              refine DRV.q rfl rfl (fun w' hF => RdL.indexAddr Tryd.underlying24 ti9 (by decide) rfl rfl hN ⟨r0z, r0t⟩) ?_
              refine DRV.q rfl rfl (FSt.load1 sc9 rfl (RdS.at hN r0z r0t)) ?_
              rw [en0]
              refine DRV.fork ?_ ?_
              · refine DRV.call rfl rfl call8 rfl rfl (within_spec hst (v := IntKind.i64.wrap (x.tdiv 4)) (n := 4) (wrap_ok _) (by unfold i64ok; decide)) ?_
                rintro e w ⟨rfl, hstn⟩
                clear hst
                have hst := hstn
                clear hstn
                rw [hj1]
                refine ⟨_, rfl, FSt w0 _ (Lv2 ++ L), FSt.lift (Imm.le.refl _), FSt.of hst (Imm.le.refl _) (by simp), ?_⟩
                refine DRV.q rfl rfl (fun w' hF => RdL.indexAddr Tryd.underlying24 ti9 (by decide) rfl rfl hV ⟨r1z, r1t⟩) ?_
                refine DRV.q rfl rfl (FSt.load1 sc9 rfl (RdS.at hV r1z r1t)) ?_
                rw [ev0]
                refine DRV.q rfl rfl (fun w' hF => runs_buildF (cells := [_, _]) bz27 rfl rfl rfl rfl rfl) ?_
                refine DRV.opE rfl rfl (runs_alloc ti27 hst) ?_
                rintro _ w ⟨b74, rfl, hstn⟩
                clear hst
                have hst := hstn
                clear hstn
                refine ⟨FSt w0 _ (Lv2 ++ L), FSt.lift (Imm.le.refl _), FSt.of hst (Imm.le.refl _) (by simp), ?_⟩
                first
                  | refine DRV.opE0 rfl (runs_storeW ti27 rfl rfl hst (k := 0) rfl rfl rfl (NoFz.zero _) rfl) ?_
                  | refine DRV.opE0 rfl (runs_storeP ti27 rfl rfl hst (k := 0) rfl rfl rfl (NoFz.zero _) rfl) ?_
                  | refine DRV.opE0 rfl (runs_storeW ti27 rfl rfl hst (k := 1) rfl rfl rfl (NoFz.zero _) rfl) ?_
                  | refine DRV.opE0 rfl (runs_storeP ti27 rfl rfl hst (k := 1) rfl rfl rfl (NoFz.zero _) rfl) ?_
                  | refine DRV.opE0 rfl (runs_storeW ti27 rfl rfl hst (k := 2) rfl rfl rfl (NoFz.zero _) rfl) ?_
                  | refine DRV.opE0 rfl (runs_storeP ti27 rfl rfl hst (k := 2) rfl rfl rfl (NoFz.zero _) rfl) ?_
                rintro w hstn
                clear hst
                have hst := hstn
                clear hstn
                try simp only [List.set_cons_zero, List.set_cons_succ] at hst
                refine ⟨FSt w0 _ (Lv2 ++ L), FSt.lift (Imm.le.refl _), FSt.of hst (Imm.le.refl _) (by simp), ?_⟩
                refine DRV.done ?_
                exact AQ.meet (_, _) ⟨hle, hM, hl, hst⟩ ⟨rfl, rfl, rfl, rfl, rfl, rfl, trivial⟩
              refine DRV.opE rfl rfl (runs_alloc ti27 hst) ?_
              rintro _ w ⟨b76, rfl, hstn⟩
              clear hst
              have hst := hstn
              clear hstn
              refine ⟨FSt w0 _ (Lv2 ++ L), FSt.lift (Imm.le.refl _), FSt.of hst (Imm.le.refl _) (by simp), ?_⟩
              refine DRV.call rfl rfl call8 rfl rfl (within_spec hst (v := IntKind.i64.wrap (x.tdiv 4)) (n := 4) (wrap_ok _) (by unfold i64ok; decide)) ?_
              rintro e w ⟨rfl, hstn⟩
              clear hst
              have hst := hstn
              clear hstn
              rw [hj1]
              refine ⟨_, rfl, FSt w0 _ (Lv2 ++ L), FSt.lift (Imm.le.refl _), FSt.of hst (Imm.le.refl _) (by simp), ?_⟩
              refine DRV.q rfl rfl (fun w' hF => RdL.indexAddr Tryd.underlying24 ti9 (by decide) rfl rfl hV ⟨r1z, r1t⟩) ?_
              refine DRV.q rfl rfl (FSt.load1 sc9 rfl (RdS.at hV r1z r1t)) ?_
              rw [ev0]
              refine DRV.q rfl rfl (fun w' hF => runs_buildF (cells := [_, _]) bz27 rfl rfl rfl rfl rfl) ?_
              first
                | refine DRV.opE0 rfl (runs_storeW ti27 rfl rfl hst (k := 0) rfl rfl rfl (NoFz.zero _) rfl) ?_
                | refine DRV.opE0 rfl (runs_storeP ti27 rfl rfl hst (k := 0) rfl rfl rfl (NoFz.zero _) rfl) ?_
                | refine DRV.opE0 rfl (runs_storeW ti27 rfl rfl hst (k := 1) rfl rfl rfl (NoFz.zero _) rfl) ?_
                | refine DRV.opE0 rfl (runs_storeP ti27 rfl rfl hst (k := 1) rfl rfl rfl (NoFz.zero _) rfl) ?_
                | refine DRV.opE0 rfl (runs_storeW ti27 rfl rfl hst (k := 2) rfl rfl rfl (NoFz.zero _) rfl) ?_
                | refine DRV.opE0 rfl (runs_storeP ti27 rfl rfl hst (k := 2) rfl rfl rfl (NoFz.zero _) rfl) ?_
              rintro w hstn
              clear hst
              have hst := hstn
              clear hstn
              try simp only [List.set_cons_zero, List.set_cons_succ] at hst
              refine ⟨FSt w0 _ (Lv2 ++ L), FSt.lift (Imm.le.refl _), FSt.of hst (Imm.le.refl _) (by simp), ?_⟩
              refine DRV.done ?_
              exact AQ.meet (_, _) ⟨hle, hM, hl, hst⟩ ⟨rfl, rfl, rfl, rfl, rfl, rfl, trivial⟩
            refine DRV.fork ?_ ?_
            · refine DRV.call rfl rfl call8 rfl rfl (within_spec hst (v := IntKind.i64.wrap (x.tdiv 4)) (n := 4) (wrap_ok _) (by unfold i64ok; decide)) ?_
              rintro e w ⟨rfl, hstn⟩
              clear hst
              have hst := hstn
              clear hstn
              rw [hj1]
              refine ⟨_, rfl, FSt w0 _ (Lv2 ++ L), FSt.lift (Imm.le.refl _), FSt.of hst (Imm.le.refl _) (by simp), ?_⟩
              refine DRV.q rfl rfl (fun w' hF => RdL.indexAddr Tryd.underlying24 ti9 (by decide) rfl rfl hV ⟨r1z, r1t⟩) ?_
              refine DRV.q rfl rfl (FSt.load1 sc9 rfl (RdS.at hV r1z r1t)) ?_
              rw [ev0]
              refine DRV.fork ?_ ?_
              · refine DRV.opE rfl rfl (runs_lit1R Tryd.underlying24 ti9 (by decide) rfl rfl rfl (by simp [Value.oneCell']) hst) ?_
                rintro u80 w ⟨I80, hI80, hstn, h80⟩
                clear hst
                have hst := hstn
                clear hstn
                replace hM := hM.mono hI80
                replace hl := hl.mono hI80
                replace h71 := h71.mono hI80
                replace hV := hV.mono hI80
                replace hle := hle.trans hI80
                refine ⟨FSt w0 _ (Lv2 ++ L), FSt.lift hI80, FSt.of hst (Imm.le.refl _) (by simp), ?_⟩
                have hN : RdS _ u80 (nmL.map strOf) := h80
                refine DRV.q rfl rfl (fun w' hF => RdL.indexAddr Tryd.underlying24 ti9 (by decide) rfl rfl hN ⟨r0z, r0t⟩) ?_
                refine DRV.q rfl rfl (FSt.load1 sc9 rfl (RdS.at hN r0z r0t)) ?_
                rw [en0]
                refine DRV.q rfl rfl (fun w' hF => runs_buildF (cells := [_, _]) bz27 rfl rfl rfl rfl rfl) ?_
                refine DRV.opE rfl rfl (runs_alloc ti27 hst) ?_
                rintro _ w ⟨b81, rfl, hstn⟩
                clear hst
                have hst := hstn
                clear hstn
                refine ⟨FSt w0 _ (Lv2 ++ L), FSt.lift (Imm.le.refl _), FSt.of hst (Imm.le.refl _) (by simp), ?_⟩
                first
                  | refine DRV.opE0 rfl (runs_storeW ti27 rfl rfl hst (k := 0) rfl rfl rfl (NoFz.zero _) rfl) ?_
                  | refine DRV.opE0 rfl (runs_storeP ti27 rfl rfl hst (k := 0) rfl rfl rfl (NoFz.zero _) rfl) ?_
                  | refine DRV.opE0 rfl (runs_storeW ti27 rfl rfl hst (k := 1) rfl rfl rfl (NoFz.zero _) rfl) ?_
                  | refine DRV.opE0 rfl (runs_storeP ti27 rfl rfl hst (k := 1) rfl rfl rfl (NoFz.zero _) rfl) ?_
                  | refine DRV.opE0 rfl (runs_storeW ti27 rfl rfl hst (k := 2) rfl rfl rfl (NoFz.zero _) rfl) ?_
                  | refine DRV.opE0 rfl (runs_storeP ti27 rfl rfl hst (k := 2) rfl rfl rfl (NoFz.zero _) rfl) ?_
                rintro w hstn
                clear hst
                have hst := hstn
                clear hstn
                try simp only [List.set_cons_zero, List.set_cons_succ] at hst
                refine ⟨FSt w0 _ (Lv2 ++ L), FSt.lift (Imm.le.refl _), FSt.of hst (Imm.le.refl _) (by simp), ?_⟩
                refine DRV.done ?_
                exact AQ.meet (_, _) ⟨hle, hM, hl, hst⟩ ⟨rfl, rfl, rfl, rfl, rfl, rfl, trivial⟩
              refine DRV.opE rfl rfl (runs_alloc ti27 hst) ?_
              rintro _ w ⟨b83, rfl, hstn⟩
              clear hst
              have hst := hstn
              clear hstn
              refine ⟨FSt w0 _ (Lv2 ++ L), FSt.lift (Imm.le.refl _), FSt.of hst (Imm.le.refl _) (by simp), ?_⟩
              refine DRV.opE rfl rfl (runs_lit1R Tryd.underlying24 ti9 (by decide) rfl rfl rfl (by simp [Value.oneCell']) hst) ?_
              rintro u84 w ⟨I84, hI84, hstn, h84⟩
              clear hst
              have hst := hstn
              clear hstn
              replace hM := hM.mono hI84
              replace hl := hl.mono hI84
              replace h71 := h71.mono hI84
              replace hV := hV.mono hI84
              replace hle := hle.trans hI84
              refine ⟨FSt w0 _ (Lv2 ++ L), FSt.lift hI84, FSt.of hst (Imm.le.refl _) (by simp), ?_⟩
              have hN : RdS _ u84 (nmL.map strOf) := h84
              refine DRV.q rfl rfl (fun w' hF => RdL.indexAddr Tryd.underlying24 ti9 (by decide) rfl rfl hN ⟨r0z, r0t⟩) ?_
              refine DRV.q rfl rfl (FSt.load1 sc9 rfl (RdS.at hN r0z r0t)) ?_
              rw [en0]
              refine DRV.q rfl rfl (fun w' hF => runs_buildF (cells := [_, _]) bz27 rfl rfl rfl rfl rfl) ?_
              first
                | refine DRV.opE0 rfl (runs_storeW ti27 rfl rfl hst (k := 0) rfl rfl rfl (NoFz.zero _) rfl) ?_
                | refine DRV.opE0 rfl (runs_storeP ti27 rfl rfl hst (k := 0) rfl rfl rfl (NoFz.zero _) rfl) ?_
                | refine DRV.opE0 rfl (runs_storeW ti27 rfl rfl hst (k := 1) rfl rfl rfl (NoFz.zero _) rfl) ?_
                | refine DRV.opE0 rfl (runs_storeP ti27 rfl rfl hst (k := 1) rfl rfl rfl (NoFz.zero _) rfl) ?_
                | refine DRV.opE0 rfl (runs_storeW ti27 rfl rfl hst (k := 2) rfl rfl rfl (NoFz.zero _) rfl) ?_
                | refine DRV.opE0 rfl (runs_storeP ti27 rfl rfl hst (k := 2) rfl rfl rfl (NoFz.zero _) rfl) ?_
              rintro w hstn
              clear hst
              have hst := hstn
              clear hstn
              try simp only [List.set_cons_zero, List.set_cons_succ] at hst
              refine ⟨FSt w0 _ (Lv2 ++ L), FSt.lift (Imm.le.refl _), FSt.of hst (Imm.le.refl _) (by simp), ?_⟩
              refine DRV.done ?_
              exact AQ.meet (_, _) ⟨hle, hM, hl, hst⟩ ⟨rfl, rfl, rfl, rfl, rfl, rfl, trivial⟩
            refine DRV.opE rfl rfl (runs_alloc ti27 hst) ?_
            rintro _ w ⟨b86, rfl, hstn⟩
            clear hst
            have hst := hstn
            clear hstn
            refine ⟨FSt w0 _ (Lv2 ++ L), FSt.lift (Imm.le.refl _), FSt.of hst (Imm.le.refl _) (by simp), ?_⟩
            refine DRV.fork ?_ ?_
            · refine DRV.opE rfl rfl (runs_lit1R Tryd.underlying24 ti9 (by decide) rfl rfl rfl (by simp [Value.oneCell']) hst) ?_
              rintro u87 w ⟨I87, hI87, hstn, h87⟩
              clear hst
              have hst := hstn
              clear hstn
              replace hM := hM.mono hI87
              replace hl := hl.mono hI87
              replace h71 := h71.mono hI87
              replace hV := hV.mono hI87
              replace hle := hle.trans hI87
              refine ⟨FSt w0 _ (Lv2 ++ L), FSt.lift hI87, FSt.of hst (Imm.le.refl _) (by simp), ?_⟩
              have hN : RdS _ u87 (nmL.map strOf) := h87
              refine DRV.q rfl rfl (fun w' hF => RdL.indexAddr Tryd.underlying24 ti9 (by decide) rfl rfl hN ⟨r0z, r0t⟩) ?_
              refine DRV.q rfl rfl (FSt.load1 sc9 rfl (RdS.at hN r0z r0t)) ?_
              rw [en0]
              refine DRV.call rfl rfl call8 rfl rfl (within_spec hst (v := IntKind.i64.wrap (x.tdiv 4)) (n := 4) (wrap_ok _) (by unfold i64ok; decide)) ?_
              rintro e w ⟨rfl, hstn⟩
              clear hst
              have hst := hstn
              clear hstn
              rw [hj1]
              refine ⟨_, rfl, FSt w0 _ (Lv2 ++ L), FSt.lift (Imm.le.refl _), FSt.of hst (Imm.le.refl _) (by simp), ?_⟩
              refine DRV.q rfl rfl (fun w' hF => RdL.indexAddr Tryd.underlying24 ti9 (by decide) rfl rfl hV ⟨r1z, r1t⟩) ?_
              refine DRV.q rfl rfl (FSt.load1 sc9 rfl (RdS.at hV r1z r1t)) ?_
              rw [ev0]
              refine DRV.q rfl rfl (fun w' hF => runs_buildF (cells := [_, _]) bz27 rfl rfl rfl rfl rfl) ?_
              first
                | refine DRV.opE0 rfl (runs_storeW ti27 rfl rfl hst (k := 0) rfl rfl rfl (NoFz.zero _) rfl) ?_
                | refine DRV.opE0 rfl (runs_storeP ti27 rfl rfl hst (k := 0) rfl rfl rfl (NoFz.zero _) rfl) ?_
                | refine DRV.opE0 rfl (runs_storeW ti27 rfl rfl hst (k := 1) rfl rfl rfl (NoFz.zero _) rfl) ?_
                | refine DRV.opE0 rfl (runs_storeP ti27 rfl rfl hst (k := 1) rfl rfl rfl (NoFz.zero _) rfl) ?_
                | refine DRV.opE0 rfl (runs_storeW ti27 rfl rfl hst (k := 2) rfl rfl rfl (NoFz.zero _) rfl) ?_
                | refine DRV.opE0 rfl (runs_storeP ti27 rfl rfl hst (k := 2) rfl rfl rfl (NoFz.zero _) rfl) ?_
              rintro w hstn
              clear hst
              have hst := hstn
              clear hstn
              try simp only [List.set_cons_zero, List.set_cons_succ] at hst
              refine ⟨FSt w0 _ (Lv2 ++ L), FSt.lift (Imm.le.refl _), FSt.of hst (Imm.le.refl _) (by simp), ?_⟩
              refine DRV.done ?_
              exact AQ.meet (_, _) ⟨hle, hM, hl, hst⟩ ⟨rfl, rfl, rfl, rfl, rfl, rfl, trivial⟩
            refine DRV.call rfl rfl call8 rfl rfl (within_spec hst (v := IntKind.i64.wrap (x.tdiv 4)) (n := 4) (wrap_ok _) (by unfold i64ok; decide)) ?_
            rintro e w ⟨rfl, hstn⟩
            clear hst
            have hst := hstn
            clear hstn
            rw [hj1]
            refine ⟨_, rfl, FSt w0 _ (Lv2 ++ L), FSt.lift (Imm.le.refl _), FSt.of hst (Imm.le.refl _) (by simp), ?_⟩
            refine DRV.q rfl rfl (fun w' hF => RdL.indexAddr Tryd.underlying24 ti9 (by decide) rfl rfl hV ⟨r1z, r1t⟩) ?_
            refine DRV.q rfl rfl (FSt.load1 sc9 rfl (RdS.at hV r1z r1t)) ?_
            rw [ev0]
            refine DRV.opE rfl rfl (runs_lit1R Tryd.underlying24 ti9 (by decide) rfl rfl rfl (by simp [Value.oneCell']) hst) ?_
            rintro u91 w ⟨I91, hI91, hstn, h91⟩
            clear hst
            have hst := hstn
            clear hstn
            replace hM := hM.mono hI91
            replace hl := hl.mono hI91
            replace h71 := h71.mono hI91
            replace hV := hV.mono hI91
            replace hle := hle.trans hI91
            refine ⟨FSt w0 _ (Lv2 ++ L), FSt.lift hI91, FSt.of hst (Imm.le.refl _) (by simp), ?_⟩
            have hN : RdS _ u91 (nmL.map strOf) := h91
            refine DRV.q rfl rfl (fun w' hF => RdL.indexAddr Tryd.underlying24 ti9 (by decide) rfl rfl hN ⟨r0z, r0t⟩) ?_
            refine DRV.q rfl rfl (FSt.load1 sc9 rfl (RdS.at hN r0z r0t)) ?_
            rw [en0]
            refine DRV.q rfl rfl (fun w' hF => runs_buildF (cells := [_, _]) bz27 rfl rfl rfl rfl rfl) ?_
            first
              | refine DRV.opE0 rfl (runs_storeW ti27 rfl rfl hst (k := 0) rfl rfl rfl (NoFz.zero _) rfl) ?_
              | refine DRV.opE0 rfl (runs_storeP ti27 rfl rfl hst (k := 0) rfl rfl rfl (NoFz.zero _) rfl) ?_
              | refine DRV.opE0 rfl (runs_storeW ti27 rfl rfl hst (k := 1) rfl rfl rfl (NoFz.zero _) rfl) ?_
              | refine DRV.opE0 rfl (runs_storeP ti27 rfl rfl hst (k := 1) rfl rfl rfl (NoFz.zero _) rfl) ?_
              | refine DRV.opE0 rfl (runs_storeW ti27 rfl rfl hst (k := 2) rfl rfl rfl (NoFz.zero _) rfl) ?_
              | refine DRV.opE0 rfl (runs_storeP ti27 rfl rfl hst (k := 2) rfl rfl rfl (NoFz.zero _) rfl) ?_
            rintro w hstn
            clear hst
            have hst := hstn
            clear hstn
            try simp only [List.set_cons_zero, List.set_cons_succ] at hst
            refine ⟨FSt w0 _ (Lv2 ++ L), FSt.lift (Imm.le.refl _), FSt.of hst (Imm.le.refl _) (by simp), ?_⟩
            refine DRV.done ?_
            exact AQ.meet (_, _) ⟨hle, hM, hl, hst⟩ ⟨rfl, rfl, rfl, rfl, rfl, rfl, trivial⟩
          refine DRV.fork ?_ ?_
          · refine DRV.call rfl rfl call8 rfl rfl (within_spec hst (v := IntKind.i64.wrap (x.tdiv 4)) (n := 4) (wrap_ok _) (by unfold i64ok; decide)) ?_
            rintro e w ⟨rfl, hstn⟩
            clear hst
            have hst := hstn
            clear hstn
            rw [hj1]
            refine ⟨_, rfl, FSt w0 _ (Lv2 ++ L), FSt.lift (Imm.le.refl _), FSt.of hst (Imm.le.refl _) (by simp), ?_⟩
            refine DRV.fork ?_ ?_
            · refine DRV.opE rfl rfl (runs_lit1R Tryd.underlying24 ti9 (by decide) rfl rfl rfl (by simp [Value.oneCell']) hst) ?_
              rintro u94 w ⟨I94, hI94, hstn, h94⟩
              clear hst
              have hst := hstn
              clear hstn
              replace hM := hM.mono hI94
              replace hl := hl.mono hI94
              replace hle := hle.trans hI94
              refine ⟨FSt w0 _ (Lv2 ++ L), FSt.lift hI94, FSt.of hst (Imm.le.refl _) (by simp), ?_⟩
              have hN : RdS _ u94 (nmL.map strOf) := h94
              refine DRV.q rfl rfl (fun w' hF => RdL.indexAddr Tryd.underlying24 ti9 (by decide) rfl rfl hN ⟨r0z, r0t⟩) ?_
              refine DRV.q rfl rfl (FSt.load1 sc9 rfl (RdS.at hN r0z r0t)) ?_
              rw [en0]
              refine DRV.fork ?_ ?_
              · refine DRV.opE rfl rfl (runs_lit1R Tryd.underlying24 ti9 (by decide) rfl rfl rfl (by simp [Value.oneCell']) hst) ?_
                rintro u95 w ⟨I95, hI95, hstn, h95⟩
                clear hst
                have hst := hstn
                clear hstn
                replace hM := hM.mono hI95
                replace hl := hl.mono hI95
                replace h94 := h94.mono hI95
                replace hN := hN.mono hI95
                replace hle := hle.trans hI95
                refine ⟨FSt w0 _ (Lv2 ++ L), FSt.lift hI95, FSt.of hst (Imm.le.refl _) (by simp), ?_⟩
                have hV : RdS _ u95 (valL.map strOf) := h95
                refine DRV.q rfl rfl (fun w' hF => RdL.indexAddr Tryd.underlying24 ti9 (by decide) rfl rfl hV ⟨r1z, r1t⟩) ?_
                refine DRV.q rfl rfl (FSt.load1 sc9 rfl (RdS.at hV r1z r1t)) ?_
                rw [ev0]
                refine DRV.q rfl rfl (fun w' hF => runs_buildF (cells := [_, _]) bz27 rfl rfl rfl rfl rfl) ?_
                refine DRV.opE rfl rfl (runs_alloc ti27 hst) ?_
                rintro _ w ⟨b96, rfl, hstn⟩
                clear hst
                have hst := hstn
                clear hstn
                refine ⟨FSt w0 _ (Lv2 ++ L), FSt.lift (Imm.le.refl _), FSt.of hst (Imm.le.refl _) (by simp), ?_⟩
                first
                  | refine DRV.opE0 rfl (runs_storeW ti27 rfl rfl hst (k := 0) rfl rfl rfl (NoFz.zero _) rfl) ?_
                  | refine DRV.opE0 rfl (runs_storeP ti27 rfl rfl hst (k := 0) rfl rfl rfl (NoFz.zero _) rfl) ?_
                  | refine DRV.opE0 rfl (runs_storeW ti27 rfl rfl hst (k := 1) rfl rfl rfl (NoFz.zero _) rfl) ?_
                  | refine DRV.opE0 rfl (runs_storeP ti27 rfl rfl hst (k := 1) rfl rfl rfl (NoFz.zero _) rfl) ?_
                  | refine DRV.opE0 rfl (runs_storeW ti27 rfl rfl hst (k := 2) rfl rfl rfl (NoFz.zero _) rfl) ?_
                  | refine DRV.opE0 rfl (runs_storeP ti27 rfl rfl hst (k := 2) rfl rfl rfl (NoFz.zero _) rfl) ?_
                rintro w hstn
                clear hst
                have hst := hstn
                clear hstn
                try simp only [List.set_cons_zero, List.set_cons_succ] at hst
                refine ⟨FSt w0 _ (Lv2 ++ L), FSt.lift (Imm.le.refl _), FSt.of hst (Imm.le.refl _) (by simp), ?_⟩
                refine DRV.done ?_
                exact AQ.meet (_, _) ⟨hle, hM, hl, hst⟩ ⟨rfl, rfl, rfl, rfl, rfl, rfl, trivial⟩
              refine DRV.opE rfl rfl (runs_alloc ti27 hst) ?_
              rintro _ w ⟨b98, rfl, hstn⟩
              clear hst
              have hst := hstn
              clear hstn
              refine ⟨FSt w0 _ (Lv2 ++ L), FSt.lift (Imm.le.refl _), FSt.of hst (Imm.le.refl _) (by simp), ?_⟩
              refine DRV.opE rfl rfl (runs_lit1R Tryd.underlying24 ti9 (by decide) rfl rfl rfl (by simp [Value.oneCell']) hst) ?_
              rintro u99 w ⟨I99, hI99, hstn, h99⟩
              clear hst
              have hst := hstn
              clear hstn
              replace hM := hM.mono hI99
              replace hl := hl.mono hI99
              replace h94 := h94.mono hI99
              replace hN := hN.mono hI99
              replace hle := hle.trans hI99
              refine ⟨FSt w0 _ (Lv2 ++ L), FSt.lift hI99, FSt.of hst (Imm.le.refl _) (by simp), ?_⟩
              have hV : RdS _ u99 (valL.map strOf) := h99
              refine DRV.q rfl rfl (fun w' hF => RdL.indexAddr Tryd.underlying24 ti9 (by decide) rfl rfl hV ⟨r1z, r1t⟩) ?_
              refine DRV.q rfl rfl (FSt.load1 sc9 rfl (RdS.at hV r1z r1t)) ?_
              rw [ev0]
              refine DRV.q rfl rfl (fun w' hF => runs_buildF (cells := [_, _]) bz27 rfl rfl rfl rfl rfl) ?_
              first
                | refine DRV.opE0 rfl (runs_storeW ti27 rfl rfl hst (k := 0) rfl rfl rfl (NoFz.zero _) rfl) ?_
                | refine DRV.opE0 rfl (runs_storeP ti27 rfl rfl hst (k := 0) rfl rfl rfl (NoFz.zero _) rfl) ?_
                | refine DRV.opE0 rfl (runs_storeW ti27 rfl rfl hst (k := 1) rfl rfl rfl (NoFz.zero _) rfl) ?_
                | refine DRV.opE0 rfl (runs_storeP ti27 rfl rfl hst (k := 1) rfl rfl rfl (NoFz.zero _) rfl) ?_
                | refine DRV.opE0 rfl (runs_storeW ti27 rfl rfl hst (k := 2) rfl rfl rfl (NoFz.zero _) rfl) ?_
                | refine DRV.opE0 rfl (runs_storeP ti27 rfl rfl hst (k := 2) rfl rfl rfl (NoFz.zero _) rfl) ?_
              rintro w hstn
              clear hst
              have hst := hstn
              clear hstn
              try simp only [List.set_cons_zero, List.set_cons_succ] at hst
              refine ⟨FSt w0 _ (Lv2 ++ L), FSt.lift (Imm.le.refl _), FSt.of hst (Imm.le.refl _) (by simp), ?_⟩
              refine DRV.done ?_
              exact AQ.meet (_, _) ⟨hle, hM, hl, hst⟩ ⟨rfl, rfl, rfl, rfl, rfl, rfl, trivial⟩
            refine DRV.fork ?_ ?_
            · refine DRV.opE rfl rfl (runs_lit1R Tryd.underlying24 ti9 (by decide) rfl rfl rfl (by simp [Value.oneCell']) hst) ?_
              rintro u101 w ⟨I101, hI101, hstn, h101⟩
              clear hst
              have hst := hstn
              clear hstn
              replace hM := hM.mono hI101
              replace hl := hl.mono hI101
              replace hle := hle.trans hI101
              refine ⟨FSt w0 _ (Lv2 ++ L), FSt.lift hI101, FSt.of hst (Imm.le.refl _) (by simp), ?_⟩
              have hV : RdS _ u101 (valL.map strOf) := h101
              refine DRV.q rfl rfl (fun w' hF => RdL.indexAddr Tryd.underlying24 ti9 (by decide) rfl rfl hV ⟨r1z, r1t⟩) ?_
              refine DRV.q rfl rfl (FSt.load1 sc9 rfl (RdS.at hV r1z r1t)) ?_
              rw [ev0]
              refine DRV.fork ?_ ?_
              · refine DRV.opE rfl rfl (runs_lit1R Tryd.underlying24 ti9 (by decide) rfl rfl rfl (by simp [Value.oneCell']) hst) ?_
                rintro u102 w ⟨I102, hI102, hstn, h102⟩
                clear hst
                have hst := hstn
                clear hstn
                replace hM := hM.mono hI102
                replace hl := hl.mono hI102
                replace h101 := h101.mono hI102
                replace hV := hV.mono hI102
                replace hle := hle.trans hI102
                refine ⟨FSt w0 _ (Lv2 ++ L), FSt.lift hI102, FSt.of hst (Imm.le.refl _) (by simp), ?_⟩
                have hN : RdS _ u102 (nmL.map strOf) := h102
                refine DRV.q rfl rfl (fun w' hF => RdL.indexAddr Tryd.underlying24 ti9 (by decide) rfl rfl hN ⟨r0z, r0t⟩) ?_
                refine DRV.q rfl rfl (FSt.load1 sc9 rfl (RdS.at hN r0z r0t)) ?_
                rw [en0]
                refine DRV.q rfl rfl (fun w' hF => runs_buildF (cells := [_, _]) bz27 rfl rfl rfl rfl rfl) ?_
                refine DRV.opE rfl rfl (runs_alloc ti27 hst) ?_
                rintro _ w ⟨b103, rfl, hstn⟩
                clear hst
                have hst := hstn
                clear hstn
                refine ⟨FSt w0 _ (Lv2 ++ L), FSt.lift (Imm.le.refl _), FSt.of hst (Imm.le.refl _) (by simp), ?_⟩
                first
                  | refine DRV.opE0 rfl (runs_storeW ti27 rfl rfl hst (k := 0) rfl rfl rfl (NoFz.zero _) rfl) ?_
                  | refine DRV.opE0 rfl (runs_storeP ti27 rfl rfl hst (k := 0) rfl rfl rfl (NoFz.zero _) rfl) ?_
                  | refine DRV.opE0 rfl (runs_storeW ti27 rfl rfl hst (k := 1) rfl rfl rfl (NoFz.zero _) rfl) ?_
                  | refine DRV.opE0 rfl (runs_storeP ti27 rfl rfl hst (k := 1) rfl rfl rfl (NoFz.zero _) rfl) ?_
                  | refine DRV.opE0 rfl (runs_storeW ti27 rfl rfl hst (k := 2) rfl rfl rfl (NoFz.zero _) rfl) ?_
                  | refine DRV.opE0 rfl (runs_storeP ti27 rfl rfl hst (k := 2) rfl rfl rfl (NoFz.zero _) rfl) ?_
                rintro w hstn
                clear hst
                have hst := hstn
                clear hstn
                try simp only [List.set_cons_zero, List.set_cons_succ] at hst
                refine ⟨FSt w0 _ (Lv2 ++ L), FSt.lift (Imm.le.refl _), FSt.of hst (Imm.le.refl _) (by simp), ?_⟩
                refine DRV.done ?_
                exact AQ.meet (_, _) ⟨hle, hM, hl, hst⟩ ⟨rfl, rfl, rfl, rfl, rfl, rfl, trivial⟩
              refine DRV.opE rfl rfl (runs_alloc ti27 hst) ?_
              rintro _ w ⟨b105, rfl, hstn⟩
              clear hst
              have hst := hstn
              clear hstn
              refine ⟨FSt w0 _ (Lv2 ++ L), FSt.lift (Imm.le.refl _), FSt.of hst (Imm.le.refl _) (by simp), ?_⟩
              refine DRV.opE rfl rfl (runs_lit1R Tryd.underlying24 ti9 (by decide) rfl rfl rfl (by simp [Value.oneCell']) hst) ?_
              rintro u106 w ⟨I106, hI106, hstn, h106⟩
              clear hst
              have hst := hstn
              clear hstn
              replace hM := hM.mono hI106
              replace hl := hl.mono hI106
              replace h101 := h101.mono hI106
              replace hV := hV.mono hI106
              replace hle := hle.trans hI106
              refine ⟨FSt w0 _ (Lv2 ++ L), FSt.lift hI106, FSt.of hst (Imm.le.refl _) (by simp), ?_⟩
              have hN : RdS _ u106 (nmL.map strOf) := h106
              refine DRV.q rfl rfl (fun w' hF => RdL.indexAddr Tryd.underlying24 ti9 (by decide) rfl rfl hN ⟨r0z, r0t⟩) ?_
              refine DRV.q rfl rfl (FSt.load1 sc9 rfl (RdS.at hN r0z r0t)) ?_
              rw [en0]
              refine DRV.q rfl rfl (fun w' hF => runs_buildF (cells := [_, _]) bz27 rfl rfl rfl rfl rfl) ?_
              first
                | refine DRV.opE0 rfl (runs_storeW ti27 rfl rfl hst (k := 0) rfl rfl rfl (NoFz.zero _) rfl) ?_
                | refine DRV.opE0 rfl (runs_storeP ti27 rfl rfl hst (k := 0) rfl rfl rfl (NoFz.zero _) rfl) ?_
                | refine DRV.opE0 rfl (runs_storeW ti27 rfl rfl hst (k := 1) rfl rfl rfl (NoFz.zero _) rfl) ?_
                | refine DRV.opE0 rfl (runs_storeP ti27 rfl rfl hst (k := 1) rfl rfl rfl (NoFz.zero _) rfl) ?_
                | refine DRV.opE0 rfl (runs_storeW ti27 rfl rfl hst (k := 2) rfl rfl rfl (NoFz.zero _) rfl) ?_
                | refine DRV.opE0 rfl (runs_storeP ti27 rfl rfl hst (k := 2) rfl rfl rfl (NoFz.zero _) rfl) ?_
              rintro w hstn
              clear hst
              have hst := hstn
              clear hstn
              try simp only [List.set_cons_zero, List.set_cons_succ] at hst
              refine ⟨FSt w0 _ (Lv2 ++ L), FSt.lift (Imm.le.refl _), FSt.of hst (Imm.le.refl _) (by simp), ?_⟩
              refine DRV.done ?_
              exact AQ.meet (_, _) ⟨hle, hM, hl, hst⟩ ⟨rfl, rfl, rfl, rfl, rfl, rfl, trivial⟩
            refine DRV.opE rfl rfl (runs_alloc ti27 hst) ?_
            rintro _ w ⟨b108, rfl, hstn⟩
            clear hst
            have hst := hstn
            clear hstn
            refine ⟨FSt w0 _ (Lv2 ++ L), FSt.lift (Imm.le.refl _), FSt.of hst (Imm.le.refl _) (by simp), ?_⟩
            refine DRV.fork ?_ ?_
            · refine DRV.opE rfl rfl (runs_lit1R Tryd.underlying24 ti9 (by decide) rfl rfl rfl (by simp [Value.oneCell']) hst) ?_
              rintro u109 w ⟨I109, hI109, hstn, h109⟩
              clear hst
              have hst := hstn
              clear hstn
              replace hM := hM.mono hI109
              replace hl := hl.mono hI109
              replace hle := hle.trans hI109
              refine ⟨FSt w0 _ (Lv2 ++ L), FSt.lift hI109, FSt.of hst (Imm.le.refl _) (by simp), ?_⟩
              have hN : RdS _ u109 (nmL.map strOf) := h109
              refine DRV.q rfl rfl (fun w' hF => RdL.indexAddr Tryd.underlying24 ti9 (by decide) rfl rfl hN ⟨r0z, r0t⟩) ?_
              refine DRV.q rfl rfl (FSt.load1 sc9 rfl (RdS.at hN r0z r0t)) ?_
              rw [en0]
              refine DRV.opE rfl rfl (runs_lit1R Tryd.underlying24 ti9 (by decide) rfl rfl rfl (by simp [Value.oneCell']) hst) ?_
              rintro u110 w ⟨I110, hI110, hstn, h110⟩
              clear hst
              have hst := hstn
              clear hstn
              replace hM := hM.mono hI110
              replace hl := hl.mono hI110
              replace h109 := h109.mono hI110
              replace hN := hN.mono hI110
              replace hle := hle.trans hI110
              refine ⟨FSt w0 _ (Lv2 ++ L), FSt.lift hI110, FSt.of hst (Imm.le.refl _) (by simp), ?_⟩
              have hV : RdS _ u110 (valL.map strOf) := h110
              refine DRV.q rfl rfl (fun w' hF => RdL.indexAddr Tryd.underlying24 ti9 (by decide) rfl rfl hV ⟨r1z, r1t⟩) ?_
              refine DRV.q rfl rfl (FSt.load1 sc9 rfl (RdS.at hV r1z r1t)) ?_
              rw [ev0]
              refine DRV.q rfl rfl (fun w' hF => runs_buildF (cells := [_, _]) bz27 rfl rfl rfl rfl rfl) ?_
              first
                | refine DRV.opE0 rfl (runs_storeW ti27 rfl rfl hst (k := 0) rfl rfl rfl (NoFz.zero _) rfl) ?_
                | refine DRV.opE0 rfl (runs_storeP ti27 rfl rfl hst (k := 0) rfl rfl rfl (NoFz.zero _) rfl) ?_
                | refine DRV.opE0 rfl (runs_storeW ti27 rfl rfl hst (k := 1) rfl rfl rfl (NoFz.zero _) rfl) ?_
                | refine DRV.opE0 rfl (runs_storeP ti27 rfl rfl hst (k := 1) rfl rfl rfl (NoFz.zero _) rfl) ?_
                | refine DRV.opE0 rfl (runs_storeW ti27 rfl rfl hst (k := 2) rfl rfl rfl (NoFz.zero _) rfl) ?_
                | refine DRV.opE0 rfl (runs_storeP ti27 rfl rfl hst (k := 2) rfl rfl rfl (NoFz.zero _) rfl) ?_
              rintro w hstn
              clear hst
              have hst := hstn
              clear hstn
              try simp only [List.set_cons_zero, List.set_cons_succ] at hst
              refine ⟨FSt w0 _ (Lv2 ++ L), FSt.lift (Imm.le.refl _), FSt.of hst (Imm.le.refl _) (by simp), ?_⟩
              refine DRV.done ?_
              exact AQ.meet (_, _) ⟨hle, hM, hl, hst⟩ ⟨rfl, rfl, rfl, rfl, rfl, rfl, trivial⟩
            refine DRV.opE rfl rfl (runs_lit1R Tryd.underlying24 ti9 (by decide) rfl rfl rfl (by simp [Value.oneCell']) hst) ?_
            rintro u112 w ⟨I112, hI112, hstn, h112⟩
            clear hst
            have hst := hstn
            clear hstn
            replace hM := hM.mono hI112
            replace hl := hl.mono hI112
            replace hle := hle.trans hI112
            refine ⟨FSt w0 _ (Lv2 ++ L), FSt.lift hI112, FSt.of hst (Imm.le.refl _) (by simp), ?_⟩
            have hV : RdS _ u112 (valL.map strOf) := h112
            refine DRV.q rfl rfl (fun w' hF => RdL.indexAddr Tryd.underlying24 ti9 (by decide) rfl rfl hV ⟨r1z, r1t⟩) ?_
            refine DRV.q rfl rfl (FSt.load1 sc9 rfl (RdS.at hV r1z r1t)) ?_
            rw [ev0]
            refine DRV.opE rfl rfl (runs_lit1R Tryd.underlying24 ti9 (by decide) rfl rfl rfl (by simp [Value.oneCell']) hst) ?_
            rintro u113 w ⟨I113, hI113, hstn, h113⟩
            clear hst
            have hst := hstn
            clear hstn
            replace hM := hM.mono hI113
            replace hl := hl.mono hI113
            replace h112 := h112.mono hI113
            replace hV := hV.mono hI113
            replace hle := hle.trans hI113
            refine ⟨FSt w0 _ (Lv2 ++ L), FSt.lift hI113, FSt.of hst (Imm.le.refl _) (by simp), ?_⟩
            have hN : RdS _ u113 (nmL.map strOf) := h113
            refine DRV.q rfl rfl (fun w' hF => RdL.indexAddr Tryd.underlying24 ti9 (by decide) rfl rfl hN ⟨r0z, r0t⟩) ?_
            refine DRV.q rfl rfl (FSt.load1 sc9 rfl (RdS.at hN r0z r0t)) ?_
            rw [en0]
            refine DRV.q rfl rfl (fun w' hF => runs_buildF (cells := [_, _]) bz27 rfl rfl rfl rfl rfl) ?_
            first
              | refine DRV.opE0 rfl (runs_storeW ti27 rfl rfl hst (k := 0) rfl rfl rfl (NoFz.zero _) rfl) ?_
              | refine DRV.opE0 rfl (runs_storeP ti27 rfl rfl hst (k := 0) rfl rfl rfl (NoFz.zero _) rfl) ?_
              | refine DRV.opE0 rfl (runs_storeW ti27 rfl rfl hst (k := 1) rfl rfl rfl (NoFz.zero _) rfl) ?_
              | refine DRV.opE0 rfl (runs_storeP ti27 rfl rfl hst (k := 1) rfl rfl rfl (NoFz.zero _) rfl) ?_
              | refine DRV.opE0 rfl (runs_storeW ti27 rfl rfl hst (k := 2) rfl rfl rfl (NoFz.zero _) rfl) ?_
              | refine DRV.opE0 rfl (runs_storeP ti27 rfl rfl hst (k := 2) rfl rfl rfl (NoFz.zero _) rfl) ?_
            rintro w hstn
            clear hst
            have hst := hstn
            clear hstn
            try simp only [List.set_cons_zero, List.set_cons_succ] at hst
            refine ⟨FSt w0 _ (Lv2 ++ L), FSt.lift (Imm.le.refl _), FSt.of hst (Imm.le.refl _) (by simp), ?_⟩
            refine DRV.done ?_
            exact AQ.meet (_, _) ⟨hle, hM, hl, hst⟩ ⟨rfl, rfl, rfl, rfl, rfl, rfl, trivial⟩
          refine DRV.opE rfl rfl (runs_alloc ti27 hst) ?_
          rintro _ w ⟨b115, rfl, hstn⟩
          clear hst
          have hst := hstn
          clear hstn
          refine ⟨FSt w0 _ (Lv2 ++ L), FSt.lift (Imm.le.refl _), FSt.of hst (Imm.le.refl _) (by simp), ?_⟩
          refine DRV.fork ?_ ?_
          · refine DRV.opE rfl rfl (runs_lit1R Tryd.underlying24 ti9 (by decide) rfl rfl rfl (by simp [Value.oneCell']) hst) ?_
            rintro u116 w ⟨I116, hI116, hstn, h116⟩
            clear hst
            have hst := hstn
            clear hstn
            replace hM := hM.mono hI116
            replace hl := hl.mono hI116
            replace hle := hle.trans hI116
            refine ⟨FSt w0 _ (Lv2 ++ L), FSt.lift hI116, FSt.of hst (Imm.le.refl _) (by simp), ?_⟩
            have hN : RdS _ u116 (nmL.map strOf) := h116
            refine DRV.q rfl rfl (fun w' hF => RdL.indexAddr Tryd.underlying24 ti9 (by decide) rfl rfl hN ⟨r0z, r0t⟩) ?_
            refine DRV.q rfl rfl (FSt.load1 sc9 rfl (RdS.at hN r0z r0t)) ?_
            rw [en0]
            refine DRV.fork ?_ ?_
            · refine DRV.opE rfl rfl (runs_lit1R Tryd.underlying24 ti9 (by decide) rfl rfl rfl (by simp [Value.oneCell']) hst) ?_
              rintro u117 w ⟨I117, hI117, hstn, h117⟩
              clear hst
              have hst := hstn
              clear hstn
              replace hM := hM.mono hI117
              replace hl := hl.mono hI117
              replace h116 := h116.mono hI117
              replace hN := hN.mono hI117
              replace hle := hle.trans hI117
              refine ⟨FSt w0 _ (Lv2 ++ L), FSt.lift hI117, FSt.of hst (Imm.le.refl _) (by simp), ?_⟩
              have hV : RdS _ u117 (valL.map strOf) := h117
              refine DRV.call rfl rfl call8 rfl rfl (within_spec hst (v := IntKind.i64.wrap (x.tdiv 4)) (n := 4) (wrap_ok _) (by unfold i64ok; decide)) ?_
              rintro e w ⟨rfl, hstn⟩
              clear hst
              have hst := hstn
              clear hstn
              rw [hj1]
              refine ⟨_, rfl, FSt w0 _ (Lv2 ++ L), FSt.lift (Imm.le.refl _), FSt.of hst (Imm.le.refl _) (by simp), ?_⟩
              refine DRV.q rfl rfl (fun w' hF => RdL.indexAddr Tryd.underlying24 ti9 (by decide) rfl rfl hV ⟨r1z, r1t⟩) ?_
              refine DRV.q rfl rfl (FSt.load1 sc9 rfl (RdS.at hV r1z r1t)) ?_
              rw [ev0]
              refine DRV.q rfl rfl (fun w' hF => runs_buildF (cells := [_, _]) bz27 rfl rfl rfl rfl rfl) ?_
              first
                | refine DRV.opE0 rfl (runs_storeW ti27 rfl rfl hst (k := 0) rfl rfl rfl (NoFz.zero _) rfl) ?_
                | refine DRV.opE0 rfl (runs_storeP ti27 rfl rfl hst (k := 0) rfl rfl rfl (NoFz.zero _) rfl) ?_
                | refine DRV.opE0 rfl (runs_storeW ti27 rfl rfl hst (k := 1) rfl rfl rfl (NoFz.zero _) rfl) ?_
                | refine DRV.opE0 rfl (runs_storeP ti27 rfl rfl hst (k := 1) rfl rfl rfl (NoFz.zero _) rfl) ?_
                | refine DRV.opE0 rfl (runs_storeW ti27 rfl rfl hst (k := 2) rfl rfl rfl (NoFz.zero _) rfl) ?_
                | refine DRV.opE0 rfl (runs_storeP ti27 rfl rfl hst (k := 2) rfl rfl rfl (NoFz.zero _) rfl) ?_
              rintro w hstn
              clear hst
              have hst := hstn
              clear hstn
              try simp only [List.set_cons_zero, List.set_cons_succ] at hst
              refine ⟨FSt w0 _ (Lv2 ++ L), FSt.lift (Imm.le.refl _), FSt.of hst (Imm.le.refl _) (by simp), ?_⟩
              refine DRV.done ?_
              exact AQ.meet (_, _) ⟨hle, hM, hl, hst⟩ ⟨rfl, rfl, rfl, rfl, rfl, rfl, trivial⟩
            refine DRV.call rfl rfl call8 rfl rfl (within_spec hst (v := IntKind.i64.wrap (x.tdiv 4)) (n := 4) (wrap_ok _) (by unfold i64ok; decide)) ?_
            rintro e w ⟨rfl, hstn⟩
            clear hst
            have hst := hstn
            clear hstn
            rw [hj1]
            refine ⟨_, rfl, FSt w0 _ (Lv2 ++ L), FSt.lift (Imm.le.refl _), FSt.of hst (Imm.le.refl _) (by simp), ?_⟩
            refine DRV.opE rfl rfl (runs_lit1R Tryd.underlying24 ti9 (by decide) rfl rfl rfl (by simp [Value.oneCell']) hst) ?_
            rintro u121 w ⟨I121, hI121, hstn, h121⟩
            clear hst
            have hst := hstn
            clear hstn
            replace hM := hM.mono hI121
            replace hl := hl.mono hI121
            replace h116 := h116.mono hI121
            replace hN := hN.mono hI121
            replace hle := hle.trans hI121
            refine ⟨FSt w0 _ (Lv2 ++ L), FSt.lift hI121, FSt.of hst (Imm.le.refl _) (by simp), ?_⟩
            have hV : RdS _ u121 (valL.map strOf) := h121
            refine DRV.q rfl rfl (fun w' hF => RdL.indexAddr Tryd.underlying24 ti9 (by decide) rfl rfl hV ⟨r1z, r1t⟩) ?_
            refine DRV.q rfl rfl (FSt.load1 sc9 rfl (RdS.at hV r1z r1t)) ?_
            rw [ev0]
            refine DRV.q rfl rfl (fun w' hF => runs_buildF (cells := [_, _]) bz27 rfl rfl rfl rfl rfl) ?_
            first
              | refine DRV.opE0 rfl (runs_storeW ti27 rfl rfl hst (k := 0) rfl rfl rfl (NoFz.zero _) rfl) ?_
              | refine DRV.opE0 rfl (runs_storeP ti27 rfl rfl hst (k := 0) rfl rfl rfl (NoFz.zero _) rfl) ?_
              | refine DRV.opE0 rfl (runs_storeW ti27 rfl rfl hst (k := 1) rfl rfl rfl (NoFz.zero _) rfl) ?_
              | refine DRV.opE0 rfl (runs_storeP ti27 rfl rfl hst (k := 1) rfl rfl rfl (NoFz.zero _) rfl) ?_
              | refine DRV.opE0 rfl (runs_storeW ti27 rfl rfl hst (k := 2) rfl rfl rfl (NoFz.zero _) rfl) ?_
              | refine DRV.opE0 rfl (runs_storeP ti27 rfl rfl hst (k := 2) rfl rfl rfl (NoFz.zero _) rfl) ?_
            rintro w hstn
            clear hst
            have hst := hstn
            clear hstn
            try simp only [List.set_cons_zero, List.set_cons_succ] at hst
            refine ⟨FSt w0 _ (Lv2 ++ L), FSt.lift (Imm.le.refl _), FSt.of hst (Imm.le.refl _) (by simp), ?_⟩
            refine DRV.done ?_
            exact AQ.meet (_, _) ⟨hle, hM, hl, hst⟩ ⟨rfl, rfl, rfl, rfl, rfl, rfl, trivial⟩
          refine DRV.fork ?_ ?_
          · refine DRV.opE rfl rfl (runs_lit1R Tryd.underlying24 ti9 (by decide) rfl rfl rfl (by simp [Value.oneCell']) hst) ?_
            rintro u123 w ⟨I123, hI123, hstn, h123⟩
            clear hst
            have hst := hstn
            clear hstn
            replace hM := hM.mono hI123
            replace hl := hl.mono hI123
            replace hle := hle.trans hI123
            refine ⟨FSt w0 _ (Lv2 ++ L), FSt.lift hI123, FSt.of hst (Imm.le.refl _) (by simp), ?_⟩
            have hV : RdS _ u123 (valL.map strOf) := h123
            refine DRV.fork ?_ ?_
            · refine DRV.opE rfl rfl (runs_lit1R Tryd.underlying24 ti9 (by decide) rfl rfl rfl (by simp [Value.oneCell']) hst) ?_
              rintro u124 w ⟨I124, hI124, hstn, h124⟩
              clear hst
              have hst := hstn
              clear hstn
              replace hM := hM.mono hI124
              replace hl := hl.mono hI124
              replace h123 := h123.mono hI124
              replace hV := hV.mono hI124
              replace hle := hle.trans hI124
              refine ⟨FSt w0 _ (Lv2 ++ L), FSt.lift hI124, FSt.of hst (Imm.le.refl _) (by simp), ?_⟩
              have hN : RdS _ u124 (nmL.map strOf) := h124
              refine DRV.q rfl rfl (fun w' hF => RdL.indexAddr Tryd.underlying24 ti9 (by decide) rfl rfl hN ⟨r0z, r0t⟩) ?_
              refine DRV.q rfl rfl (FSt.load1 sc9 rfl (RdS.at hN r0z r0t)) ?_
              rw [en0]
              refine DRV.call rfl rfl call8 rfl rfl (within_spec hst (v := IntKind.i64.wrap (x.tdiv 4)) (n := 4) (wrap_ok _) (by unfold i64ok; decide)) ?_
              rintro e w ⟨rfl, hstn⟩
              clear hst
              have hst := hstn
              clear hstn
              rw [hj1]
              refine ⟨_, rfl, FSt w0 _ (Lv2 ++ L), FSt.lift (Imm.le.refl _), FSt.of hst (Imm.le.refl _) (by simp), ?_⟩
              refine DRV.q rfl rfl (fun w' hF => RdL.indexAddr Tryd.underlying24 ti9 (by decide) rfl rfl hV ⟨r1z, r1t⟩) ?_
              refine DRV.q rfl rfl (FSt.load1 sc9 rfl (RdS.at hV r1z r1t)) ?_
              rw [ev0]
              refine DRV.q rfl rfl (fun w' hF => runs_buildF (cells := [_, _]) bz27 rfl rfl rfl rfl rfl) ?_
              first
                | refine DRV.opE0 rfl (runs_storeW ti27 rfl rfl hst (k := 0) rfl rfl rfl (NoFz.zero _) rfl) ?_
                | refine DRV.opE0 rfl (runs_storeP ti27 rfl rfl hst (k := 0) rfl rfl rfl (NoFz.zero _) rfl) ?_
                | refine DRV.opE0 rfl (runs_storeW ti27 rfl rfl hst (k := 1) rfl rfl rfl (NoFz.zero _) rfl) ?_
                | refine DRV.opE0 rfl (runs_storeP ti27 rfl rfl hst (k := 1) rfl rfl rfl (NoFz.zero _) rfl) ?_
                | refine DRV.opE0 rfl (runs_storeW ti27 rfl rfl hst (k := 2) rfl rfl rfl (NoFz.zero _) rfl) ?_
                | refine DRV.opE0 rfl (runs_storeP ti27 rfl rfl hst (k := 2) rfl rfl rfl (NoFz.zero _) rfl) ?_
              rintro w hstn
              clear hst
              have hst := hstn
              clear hstn
              try simp only [List.set_cons_zero, List.set_cons_succ] at hst
              refine ⟨FSt w0 _ (Lv2 ++ L), FSt.lift (Imm.le.refl _), FSt.of hst (Imm.le.refl _) (by simp), ?_⟩
              refine DRV.done ?_
              exact AQ.meet (_, _) ⟨hle, hM, hl, hst⟩ ⟨rfl, rfl, rfl, rfl, rfl, rfl, trivial⟩
            refine DRV.call rfl rfl call8 rfl rfl (within_spec hst (v := IntKind.i64.wrap (x.tdiv 4)) (n := 4) (wrap_ok _) (by unfold i64ok; decide)) ?_
            rintro e w ⟨rfl, hstn⟩
            clear hst
            have hst := hstn
            clear hstn
            rw [hj1]
            refine ⟨_, rfl, FSt w0 _ (Lv2 ++ L), FSt.lift (Imm.le.refl _), FSt.of hst (Imm.le.refl _) (by simp), ?_⟩
            refine DRV.q rfl rfl (fun w' hF => RdL.indexAddr Tryd.underlying24 ti9 (by decide) rfl rfl hV ⟨r1z, r1t⟩) ?_
            refine DRV.q rfl rfl (FSt.load1 sc9 rfl (RdS.at hV r1z r1t)) ?_
            rw [ev0]
            refine DRV.opE rfl rfl (runs_lit1R Tryd.underlying24 ti9 (by decide) rfl rfl rfl (by simp [Value.oneCell']) hst) ?_
            rintro u128 w ⟨I128, hI128, hstn, h128⟩
            clear hst
            have hst := hstn
            clear hstn
            replace hM := hM.mono hI128
            replace hl := hl.mono hI128
            replace h123 := h123.mono hI128
            replace hV := hV.mono hI128
            replace hle := hle.trans hI128
            refine ⟨FSt w0 _ (Lv2 ++ L), FSt.lift hI128, FSt.of hst (Imm.le.refl _) (by simp), ?_⟩
            have hN : RdS _ u128 (nmL.map strOf) := h128
            refine DRV.q rfl rfl (fun w' hF => RdL.indexAddr Tryd.underlying24 ti9 (by decide) rfl rfl hN ⟨r0z, r0t⟩) ?_
            refine DRV.q rfl rfl (FSt.load1 sc9 rfl (RdS.at hN r0z r0t)) ?_
            rw [en0]
            refine DRV.q rfl rfl (fun w' hF => runs_buildF (cells := [_, _]) bz27 rfl rfl rfl rfl rfl) ?_
            first
              | refine DRV.opE0 rfl (runs_storeW ti27 rfl rfl hst (k := 0) rfl rfl rfl (NoFz.zero _) rfl) ?_
              | refine DRV.opE0 rfl (runs_storeP ti27 rfl rfl hst (k := 0) rfl rfl rfl (NoFz.zero _) rfl) ?_
              | refine DRV.opE0 rfl (runs_storeW ti27 rfl rfl hst (k := 1) rfl rfl rfl (NoFz.zero _) rfl) ?_
              | refine DRV.opE0 rfl (runs_storeP ti27 rfl rfl hst (k := 1) rfl rfl rfl (NoFz.zero _) rfl) ?_
              | refine DRV.opE0 rfl (runs_storeW ti27 rfl rfl hst (k := 2) rfl rfl rfl (NoFz.zero _) rfl) ?_
              | refine DRV.opE0 rfl (runs_storeP ti27 rfl rfl hst (k := 2) rfl rfl rfl (NoFz.zero _) rfl) ?_
            rintro w hstn
            clear hst
            have hst := hstn
            clear hstn
            try simp only [List.set_cons_zero, List.set_cons_succ] at hst
            refine ⟨FSt w0 _ (Lv2 ++ L), FSt.lift (Imm.le.refl _), FSt.of hst (Imm.le.refl _) (by simp), ?_⟩
            refine DRV.done ?_
            exact AQ.meet (_, _) ⟨hle, hM, hl, hst⟩ ⟨rfl, rfl, rfl, rfl, rfl, rfl, trivial⟩
          refine DRV.call rfl rfl call8 rfl rfl (within_spec hst (v := IntKind.i64.wrap (x.tdiv 4)) (n := 4) (wrap_ok _) (by unfold i64ok; decide)) ?_
          rintro e w ⟨rfl, hstn⟩
          clear hst
          have hst := hstn
          clear hstn
          rw [hj1]
          refine ⟨_, rfl, FSt w0 _ (Lv2 ++ L), FSt.lift (Imm.le.refl _), FSt.of hst (Imm.le.refl _) (by simp), ?_⟩
          refine DRV.fork ?_ ?_
          · refine DRV.opE rfl rfl (runs_lit1R Tryd.underlying24 ti9 (by decide) rfl rfl rfl (by simp [Value.oneCell']) hst) ?_
            rintro u131 w ⟨I131, hI131, hstn, h131⟩
            clear hst
            have hst := hstn
            clear hstn
            replace hM := hM.mono hI131
            replace hl := hl.mono hI131
            replace hle := hle.trans hI131
            refine ⟨FSt w0 _ (Lv2 ++ L), FSt.lift hI131, FSt.of hst (Imm.le.refl _) (by simp), ?_⟩
            have hN : RdS _ u131 (nmL.map strOf) := h131
            refine DRV.q rfl rfl (fun w' hF => RdL.indexAddr Tryd.underlying24 ti9 (by decide) rfl rfl hN ⟨r0z, r0t⟩) ?_
            refine DRV.q rfl rfl (FSt.load1 sc9 rfl (RdS.at hN r0z r0t)) ?_
            rw [en0]
            refine DRV.opE rfl rfl (runs_lit1R Tryd.underlying24 ti9 (by decide) rfl rfl rfl (by simp [Value.oneCell']) hst) ?_
            rintro u132 w ⟨I132, hI132, hstn, h132⟩
            clear hst
            have hst := hstn
            clear hstn
            replace hM := hM.mono hI132
            replace hl := hl.mono hI132
            replace h131 := h131.mono hI132
            replace hN := hN.mono hI132
            replace hle := hle.trans hI132
            refine ⟨FSt w0 _ (Lv2 ++ L), FSt.lift hI132, FSt.of hst (Imm.le.refl _) (by simp), ?_⟩
            have hV : RdS _ u132 (valL.map strOf) := h132
            refine DRV.q rfl rfl (fun w' hF => RdL.indexAddr Tryd.underlying24 ti9 (by decide) rfl rfl hV ⟨r1z, r1t⟩) ?_
            refine DRV.q rfl rfl (FSt.load1 sc9 rfl (RdS.at hV r1z r1t)) ?_
            rw [ev0]
            refine DRV.q rfl rfl (fun w' hF => runs_buildF (cells := [_, _]) bz27 rfl rfl rfl rfl rfl) ?_
            first
              | refine DRV.opE0 rfl (runs_storeW ti27 rfl rfl hst (k := 0) rfl rfl rfl (NoFz.zero _) rfl) ?_
              | refine DRV.opE0 rfl (runs_storeP ti27 rfl rfl hst (k := 0) rfl rfl rfl (NoFz.zero _) rfl) ?_
              | refine DRV.opE0 rfl (runs_storeW ti27 rfl rfl hst (k := 1) rfl rfl rfl (NoFz.zero _) rfl) ?_
              | refine DRV.opE0 rfl (runs_storeP ti27 rfl rfl hst (k := 1) rfl rfl rfl (NoFz.zero _) rfl) ?_
              | refine DRV.opE0 rfl (runs_storeW ti27 rfl rfl hst (k := 2) rfl rfl rfl (NoFz.zero _) rfl) ?_
              | refine DRV.opE0 rfl (runs_storeP ti27 rfl rfl hst (k := 2) rfl rfl rfl (NoFz.zero _) rfl) ?_
            rintro w hstn
            clear hst
            have hst := hstn
            clear hstn
            try simp only [List.set_cons_zero, List.set_cons_succ] at hst
            refine ⟨FSt w0 _ (Lv2 ++ L), FSt.lift (Imm.le.refl _), FSt.of hst (Imm.le.refl _) (by simp), ?_⟩
            refine DRV.done ?_
            exact AQ.meet (_, _) ⟨hle, hM, hl, hst⟩ ⟨rfl, rfl, rfl, rfl, rfl, rfl, trivial⟩
          refine DRV.opE rfl rfl (runs_lit1R Tryd.underlying24 ti9 (by decide) rfl rfl rfl (by simp [Value.oneCell']) hst) ?_
          rintro u134 w ⟨I134, hI134, hstn, h134⟩
          clear hst
          have hst := hstn
          clear hstn
          replace hM := hM.mono hI134
          replace hl := hl.mono hI134
          replace hle := hle.trans hI134
          refine ⟨FSt w0 _ (Lv2 ++ L), FSt.lift hI134, FSt.of hst (Imm.le.refl _) (by simp), ?_⟩
          have hV : RdS _ u134 (valL.map strOf) := h134
          refine DRV.q rfl rfl (fun w' hF => RdL.indexAddr Tryd.underlying24 ti9 (by decide) rfl rfl hV ⟨r1z, r1t⟩) ?_
          refine DRV.q rfl rfl (FSt.load1 sc9 rfl (RdS.at hV r1z r1t)) ?_
          rw [ev0]
          refine DRV.opE rfl rfl (runs_lit1R Tryd.underlying24 ti9 (by decide) rfl rfl rfl (by simp [Value.oneCell']) hst) ?_
          rintro u135 w ⟨I135, hI135, hstn, h135⟩
          clear hst
          have hst := hstn
          clear hstn
          replace hM := hM.mono hI135
          replace hl := hl.mono hI135
          replace h134 := h134.mono hI135
          replace hV := hV.mono hI135
          replace hle := hle.trans hI135
          refine ⟨FSt w0 _ (Lv2 ++ L), FSt.lift hI135, FSt.of hst (Imm.le.refl _) (by simp), ?_⟩
          have hN : RdS _ u135 (nmL.map strOf) := h135
          refine DRV.q rfl rfl (fun w' hF => RdL.indexAddr Tryd.underlying24 ti9 (by decide) rfl rfl hN ⟨r0z, r0t⟩) ?_
          refine DRV.q rfl rfl (FSt.load1 sc9 rfl (RdS.at hN r0z r0t)) ?_
          rw [en0]
          refine DRV.q rfl rfl (fun w' hF => runs_buildF (cells := [_, _]) bz27 rfl rfl rfl rfl rfl) ?_
          first
            | refine DRV.opE0 rfl (runs_storeW ti27 rfl rfl hst (k := 0) rfl rfl rfl (NoFz.zero _) rfl) ?_
            | refine DRV.opE0 rfl (runs_storeP ti27 rfl rfl hst (k := 0) rfl rfl rfl (NoFz.zero _) rfl) ?_
            | refine DRV.opE0 rfl (runs_storeW ti27 rfl rfl hst (k := 1) rfl rfl rfl (NoFz.zero _) rfl) ?_
            | refine DRV.opE0 rfl (runs_storeP ti27 rfl rfl hst (k := 1) rfl rfl rfl (NoFz.zero _) rfl) ?_
            | refine DRV.opE0 rfl (runs_storeW ti27 rfl rfl hst (k := 2) rfl rfl rfl (NoFz.zero _) rfl) ?_
            | refine DRV.opE0 rfl (runs_storeP ti27 rfl rfl hst (k := 2) rfl rfl rfl (NoFz.zero _) rfl) ?_
          rintro w hstn
          clear hst
          have hst := hstn
          clear hstn
          try simp only [List.set_cons_zero, List.set_cons_succ] at hst
          refine ⟨FSt w0 _ (Lv2 ++ L), FSt.lift (Imm.le.refl _), FSt.of hst (Imm.le.refl _) (by simp), ?_⟩
          refine DRV.done ?_
          exact AQ.meet (_, _) ⟨hle, hM, hl, hst⟩ ⟨rfl, rfl, rfl, rfl, rfl, rfl, trivial⟩
        refine DRV.fork ?_ ?_
        · refine DRV.opE rfl rfl (runs_lit1R Tryd.underlying24 ti9 (by decide) rfl rfl rfl (by simp [Value.oneCell']) hst) ?_
          rintro u137 w ⟨I137, hI137, hstn, h137⟩
          clear hst
          have hst := hstn
          clear hstn
          replace hM := hM.mono hI137
          replace hl := hl.mono hI137
          replace hle := hle.trans hI137
          refine ⟨FSt w0 _ (Lv2 ++ L), FSt.lift hI137, FSt.of hst (Imm.le.refl _) (by simp), ?_⟩
          have hV : RdS _ u137 (valL.map strOf) := h137
          refine DRV.fork ?_ ?_
          · refine DRV.opE rfl rfl (runs_lit1R Tryd.underlying24 ti9 (by decide) rfl rfl rfl (by simp [Value.oneCell']) hst) ?_
            rintro u138 w ⟨I138, hI138, hstn, h138⟩
            clear hst
            have hst := hstn
            clear hstn
            replace hM := hM.mono hI138
            replace hl := hl.mono hI138
            replace h137 := h137.mono hI138
            replace hV := hV.mono hI138
            replace hle := hle.trans hI138
            refine ⟨FSt w0 _ (Lv2 ++ L), FSt.lift hI138, FSt.of hst (Imm.le.refl _) (by simp), ?_⟩
            have hN : RdS _ u138 (nmL.map strOf) := h138
            refine DRV.fork ?_ ?_
            · refine DRV.call rfl rfl call8 rfl rfl (within_spec hst (v := x) (n := 4) hxok (by unfold i64ok; decide)) ?_
              rintro e w ⟨rfl, hstn⟩
              clear hst
              have hst := hstn
              clear hstn
              rw [hj0]
              refine ⟨_, rfl, FSt w0 _ (Lv2 ++ L), FSt.lift (Imm.le.refl _), FSt.of hst (Imm.le.refl _) (by simp), ?_⟩
              refine DRV.q rfl rfl (fun w' hF => RdL.indexAddr Tryd.underlying24 ti9 (by decide) rfl rfl hN ⟨r0z, r0t⟩) ?_
              refine DRV.q rfl rfl (FSt.load1 sc9 rfl (RdS.at hN r0z r0t)) ?_
              rw [en0]
              refine DRV.fork ?_ ?_
              · refine DRV.call rfl rfl call8 rfl rfl (within_spec hst (v := IntKind.i64.wrap (x.tdiv 4)) (n := 4) (wrap_ok _) (by unfold i64ok; decide)) ?_
                rintro e w ⟨rfl, hstn⟩
                clear hst
                have hst := hstn
                clear hstn
                rw [hj1]
                refine ⟨_, rfl, FSt w0 _ (Lv2 ++ L), FSt.lift (Imm.le.refl _), FSt.of hst (Imm.le.refl _) (by simp), ?_⟩
                refine DRV.q rfl rfl (fun w' hF => RdL.indexAddr Tryd.underlying24 ti9 (by decide) rfl rfl hV ⟨r1z, r1t⟩) ?_
                refine DRV.q rfl rfl (FSt.load1 sc9 rfl (RdS.at hV r1z r1t)) ?_
                rw [ev0]
                refine DRV.q rfl rfl (fun w' hF => runs_buildF (cells := [_, _]) bz27 rfl rfl rfl rfl rfl) ?_
                refine DRV.opE rfl rfl (runs_alloc ti27 hst) ?_
                rintro _ w ⟨b141, rfl, hstn⟩
                clear hst
                have hst := hstn
                clear hstn
                refine ⟨FSt w0 _ (Lv2 ++ L), FSt.lift (Imm.le.refl _), FSt.of hst (Imm.le.refl _) (by simp), ?_⟩
                first
                  | refine DRV.opE0 rfl (runs_storeW ti27 rfl rfl hst (k := 0) rfl rfl rfl (NoFz.zero _) rfl) ?_
                  | refine DRV.opE0 rfl (runs_storeP ti27 rfl rfl hst (k := 0) rfl rfl rfl (NoFz.zero _) rfl) ?_
                  | refine DRV.opE0 rfl (runs_storeW ti27 rfl rfl hst (k := 1) rfl rfl rfl (NoFz.zero _) rfl) ?_
                  | refine DRV.opE0 rfl (runs_storeP ti27 rfl rfl hst (k := 1) rfl rfl rfl (NoFz.zero _) rfl) ?_
                  | refine DRV.opE0 rfl (runs_storeW ti27 rfl rfl hst (k := 2) rfl rfl rfl (NoFz.zero _) rfl) ?_
                  | refine DRV.opE0 rfl (runs_storeP ti27 rfl rfl hst (k := 2) rfl rfl rfl (NoFz.zero _) rfl) ?_
                rintro w hstn
                clear hst
                have hst := hstn
                clear hstn
                try simp only [List.set_cons_zero, List.set_cons_succ] at hst
                refine ⟨FSt w0 _ (Lv2 ++ L), FSt.lift (Imm.le.refl _), FSt.of hst (Imm.le.refl _) (by simp), ?_⟩
                refine DRV.done ?_
                exact AQ.meet (_, _) ⟨hle, hM, hl, hst⟩ ⟨rfl, rfl, rfl, rfl, rfl, rfl, trivial⟩
              refine DRV.opE rfl rfl (runs_alloc ti27 hst) ?_
              rintro _ w ⟨b143, rfl, hstn⟩
              clear hst
              have hst := hstn
              clear hstn
              refine ⟨FSt w0 _ (Lv2 ++ L), FSt.lift (Imm.le.refl _), FSt.of hst (Imm.le.refl _) (by simp), ?_⟩
              refine DRV.call rfl rfl call8 rfl rfl (within_spec hst (v := IntKind.i64.wrap (x.tdiv 4)) (n := 4) (wrap_ok _) (by unfold i64ok; decide)) ?_
              rintro e w ⟨rfl, hstn⟩
              clear hst
              have hst := hstn
              clear hstn
              rw [hj1]
              refine ⟨_, rfl, FSt w0 _ (Lv2 ++ L), FSt.lift (Imm.le.refl _), FSt.of hst (Imm.le.refl _) (by simp), ?_⟩
              refine DRV.q rfl rfl (fun w' hF => RdL.indexAddr Tryd.underlying24 ti9 (by decide) rfl rfl hV ⟨r1z, r1t⟩) ?_
              refine DRV.q rfl rfl (FSt.load1 sc9 rfl (RdS.at hV r1z r1t)) ?_
              rw [ev0]
              refine DRV.q rfl rfl (fun w' hF => runs_buildF (cells := [_, _]) bz27 rfl rfl rfl rfl rfl) ?_
              first
                | refine DRV.opE0 rfl (runs_storeW ti27 rfl rfl hst (k := 0) rfl rfl rfl (NoFz.zero _) rfl) ?_
                | refine DRV.opE0 rfl (runs_storeP ti27 rfl rfl hst (k := 0) rfl rfl rfl (NoFz.zero _) rfl) ?_
                | refine DRV.opE0 rfl (runs_storeW ti27 rfl rfl hst (k := 1) rfl rfl rfl (NoFz.zero _) rfl) ?_
                | refine DRV.opE0 rfl (runs_storeP ti27 rfl rfl hst (k := 1) rfl rfl rfl (NoFz.zero _) rfl) ?_
                | refine DRV.opE0 rfl (runs_storeW ti27 rfl rfl hst (k := 2) rfl rfl rfl (NoFz.zero _) rfl) ?_
                | refine DRV.opE0 rfl (runs_storeP ti27 rfl rfl hst (k := 2) rfl rfl rfl (NoFz.zero _) rfl) ?_
              rintro w hstn
              clear hst
              have hst := hstn
              clear hstn
              try simp only [List.set_cons_zero, List.set_cons_succ] at hst
              refine ⟨FSt w0 _ (Lv2 ++ L), FSt.lift (Imm.le.refl _), FSt.of hst (Imm.le.refl _) (by simp), ?_⟩
              refine DRV.done ?_
              exact AQ.meet (_, _) ⟨hle, hM, hl, hst⟩ ⟨rfl, rfl, rfl, rfl, rfl, rfl, trivial⟩
            refine DRV.opE rfl rfl (runs_alloc ti27 hst) ?_
            rintro _ w ⟨b146, rfl, hstn⟩
            clear hst
            have hst := hstn
            clear hstn
            refine ⟨FSt w0 _ (Lv2 ++ L), FSt.lift (Imm.le.refl _), FSt.of hst (Imm.le.refl _) (by simp), ?_⟩
            refine DRV.call rfl rfl call8 rfl rfl (within_spec hst (v := x) (n := 4) hxok (by unfold i64ok; decide)) ?_
            rintro e w ⟨rfl, hstn⟩
            clear hst
            have hst := hstn
            clear hstn
            rw [hj0]
            refine ⟨_, rfl, FSt w0 _ (Lv2 ++ L), FSt.lift (Imm.le.refl _), FSt.of hst (Imm.le.refl _) (by simp), ?_⟩
            refine DRV.q rfl rfl (fun w' hF => RdL.indexAddr Tryd.underlying24 ti9 (by decide) rfl rfl hN ⟨r0z, r0t⟩) ?_
            refine DRV.q rfl rfl (FSt.load1 sc9 rfl (RdS.at hN r0z r0t)) ?_
            rw [en0]
            refine DRV.call rfl rfl call8 rfl rfl (within_spec hst (v := IntKind.i64.wrap (x.tdiv 4)) (n := 4) (wrap_ok _) (by unfold i64ok; decide)) ?_
            rintro e w ⟨rfl, hstn⟩
            clear hst
            have hst := hstn
            clear hstn
            rw [hj1]
            refine ⟨_, rfl, FSt w0 _ (Lv2 ++ L), FSt.lift (Imm.le.refl _), FSt.of hst (Imm.le.refl _) (by simp), ?_⟩
            refine DRV.q rfl rfl (fun w' hF => RdL.indexAddr Tryd.underlying24 ti9 (by decide) rfl rfl hV ⟨r1z, r1t⟩) ?_
            refine DRV.q rfl rfl (FSt.load1 sc9 rfl (RdS.at hV r1z r1t)) ?_
            rw [ev0]
            refine DRV.q rfl rfl (fun w' hF => runs_buildF (cells := [_, _]) bz27 rfl rfl rfl rfl rfl) ?_
            first
              | refine DRV.opE0 rfl (runs_storeW ti27 rfl rfl hst (k := 0) rfl rfl rfl (NoFz.zero _) rfl) ?_
              | refine DRV.opE0 rfl (runs_storeP ti27 rfl rfl hst (k := 0) rfl rfl rfl (NoFz.zero _) rfl) ?_
              | refine DRV.opE0 rfl (runs_storeW ti27 rfl rfl hst (k := 1) rfl rfl rfl (NoFz.zero _) rfl) ?_
              | refine DRV.opE0 rfl (runs_storeP ti27 rfl rfl hst (k := 1) rfl rfl rfl (NoFz.zero _) rfl) ?_
              | refine DRV.opE0 rfl (runs_storeW ti27 rfl rfl hst (k := 2) rfl rfl rfl (NoFz.zero _) rfl) ?_
              | refine DRV.opE0 rfl (runs_storeP ti27 rfl rfl hst (k := 2) rfl rfl rfl (NoFz.zero _) rfl) ?_
            rintro w hstn
            clear hst
            have hst := hstn
            clear hstn
            try simp only [List.set_cons_zero, List.set_cons_succ] at hst
            refine ⟨FSt w0 _ (Lv2 ++ L), FSt.lift (Imm.le.refl _), FSt.of hst (Imm.le.refl _) (by simp), ?_⟩
            refine DRV.done ?_
            exact AQ.meet (_, _) ⟨hle, hM, hl, hst⟩ ⟨rfl, rfl, rfl, rfl, rfl, rfl, trivial⟩
          refine DRV.fork ?_ ?_
          · refine DRV.call rfl rfl call8 rfl rfl (within_spec hst (v := x) (n := 4) hxok (by unfold i64ok; decide)) ?_
            rintro e w ⟨rfl, hstn⟩
            clear hst
            have hst := hstn
            clear hstn
            rw [hj0]
            refine ⟨_, rfl, FSt w0 _ (Lv2 ++ L), FSt.lift (Imm.le.refl _), FSt.of hst (Imm.le.refl _) (by simp), ?_⟩
            refine DRV.fork ?_ ?_
            · refine DRV.opE rfl rfl (runs_lit1R Tryd.underlying24 ti9 (by decide) rfl rfl rfl (by simp [Value.oneCell']) hst) ?_
              rintro u151 w ⟨I151, hI151, hstn, h151⟩
              clear hst
              have hst := hstn
              clear hstn
              replace hM := hM.mono hI151
              replace hl := hl.mono hI151
              replace h137 := h137.mono hI151
              replace hV := hV.mono hI151
              replace hle := hle.trans hI151
              refine ⟨FSt w0 _ (Lv2 ++ L), FSt.lift hI151, FSt.of hst (Imm.le.refl _) (by simp), ?_⟩
              have hN : RdS _ u151 (nmL.map strOf) := h151
              refine DRV.q rfl rfl (fun w' hF => RdL.indexAddr Tryd.underlying24 ti9 (by decide) rfl rfl hN ⟨r0z, r0t⟩) ?_
              refine DRV.q rfl rfl (FSt.load1 sc9 rfl (RdS.at hN r0z r0t)) ?_
              rw [en0]
              refine DRV.fork ?_ ?_
              · refine DRV.call rfl rfl call8 rfl rfl (within_spec hst (v := IntKind.i64.wrap (x.tdiv 4)) (n := 4) (wrap_ok _) (by unfold i64ok; decide)) ?_
                rintro e w ⟨rfl, hstn⟩
                clear hst
                have hst := hstn
                clear hstn
                rw [hj1]
                refine ⟨_, rfl, FSt w0 _ (Lv2 ++ L), FSt.lift (Imm.le.refl _), FSt.of hst (Imm.le.refl _) (by simp), ?_⟩
                refine DRV.q rfl rfl (fun w' hF => RdL.indexAddr Tryd.underlying24 ti9 (by decide) rfl rfl hV ⟨r1z, r1t⟩) ?_
                refine DRV.q rfl rfl (FSt.load1 sc9 rfl (RdS.at hV r1z r1t)) ?_
                rw [ev0]
                refine DRV.q rfl rfl (fun w' hF => runs_buildF (cells := [_, _]) bz27 rfl rfl rfl rfl rfl) ?_
                refine DRV.opE rfl rfl (runs_alloc ti27 hst) ?_
                rintro _ w ⟨b153, rfl, hstn⟩
                clear hst
                have hst := hstn
                clear hstn
                refine ⟨FSt w0 _ (Lv2 ++ L), FSt.lift (Imm.le.refl _), FSt.of hst (Imm.le.refl _) (by simp), ?_⟩
                first
                  | refine DRV.opE0 rfl (runs_storeW ti27 rfl rfl hst (k := 0) rfl rfl rfl (NoFz.zero _) rfl) ?_
                  | refine DRV.opE0 rfl (runs_storeP ti27 rfl rfl hst (k := 0) rfl rfl rfl (NoFz.zero _) rfl) ?_
                  | refine DRV.opE0 rfl (runs_storeW ti27 rfl rfl hst (k := 1) rfl rfl rfl (NoFz.zero _) rfl) ?_
                  | refine DRV.opE0 rfl (runs_storeP ti27 rfl rfl hst (k := 1) rfl rfl rfl (NoFz.zero _) rfl) ?_
                  | refine DRV.opE0 rfl (runs_storeW ti27 rfl rfl hst (k := 2) rfl rfl rfl (NoFz.zero _) rfl) ?_
                  | refine DRV.opE0 rfl (runs_storeP ti27 rfl rfl hst (k := 2) rfl rfl rfl (NoFz.zero _) rfl) ?_
                rintro w hstn
                clear hst
                have hst := hstn
                clear hstn
                try simp only [List.set_cons_zero, List.set_cons_succ] at hst
                refine ⟨FSt w0 _ (Lv2 ++ L), FSt.lift (Imm.le.refl _), FSt.of hst (Imm.le.refl _) (by simp), ?_⟩
                refine DRV.done ?_
                exact AQ.meet (_, _) ⟨hle, hM, hl, hst⟩ ⟨rfl, rfl, rfl, rfl, rfl, rfl, trivial⟩
              refine DRV.opE rfl rfl (runs_alloc ti27 hst) ?_
              rintro _ w ⟨b155, rfl, hstn⟩
              clear hst
              have hst := hstn
              clear hstn
              refine ⟨FSt w0 _ (Lv2 ++ L), FSt.lift (Imm.le.refl _), FSt.of hst (Imm.le.refl _) (by simp), ?_⟩
              refine DRV.call rfl rfl call8 rfl rfl (within_spec hst (v := IntKind.i64.wrap (x.tdiv 4)) (n := 4) (wrap_ok _) (by unfold i64ok; decide)) ?_
              rintro e w ⟨rfl, hstn⟩
              clear hst
              have hst := hstn
              clear hstn
              rw [hj1]
              refine ⟨_, rfl, FSt w0 _ (Lv2 ++ L), FSt.lift (Imm.le.refl _), FSt.of hst (Imm.le.refl _) (by simp), ?_⟩
              refine DRV.q rfl rfl (fun w' hF => RdL.indexAddr Tryd.underlying24 ti9 (by decide) rfl rfl hV ⟨r1z, r1t⟩) ?_
              refine DRV.q rfl rfl (FSt.load1 sc9 rfl (RdS.at hV r1z r1t)) ?_
              rw [ev0]
              refine DRV.q rfl rfl (fun w' hF => runs_buildF (cells := [_, _]) bz27 rfl rfl rfl rfl rfl) ?_
              first
                | refine DRV.opE0 rfl (runs_storeW ti27 rfl rfl hst (k := 0) rfl rfl rfl (NoFz.zero _) rfl) ?_
                | refine DRV.opE0 rfl (runs_storeP ti27 rfl rfl hst (k := 0) rfl rfl rfl (NoFz.zero _) rfl) ?_
                | refine DRV.opE0 rfl (runs_storeW ti27 rfl rfl hst (k := 1) rfl rfl rfl (NoFz.zero _) rfl) ?_
                | refine DRV.opE0 rfl (runs_storeP ti27 rfl rfl hst (k := 1) rfl rfl rfl (NoFz.zero _) rfl) ?_
                | refine DRV.opE0 rfl (runs_storeW ti27 rfl rfl hst (k := 2) rfl rfl rfl (NoFz.zero _) rfl) ?_
                | refine DRV.opE0 rfl (runs_storeP ti27 rfl rfl hst (k := 2) rfl rfl rfl (NoFz.zero _) rfl) ?_
              rintro w hstn
              clear hst
              have hst := hstn
              clear hstn
              try simp only [List.set_cons_zero, List.set_cons_succ] at hst
              refine ⟨FSt w0 _ (Lv2 ++ L), FSt.lift (Imm.le.refl _), FSt.of hst (Imm.le.refl _) (by simp), ?_⟩
              refine DRV.done ?_
              exact AQ.meet (_, _) ⟨hle, hM, hl, hst⟩ ⟨rfl, rfl, rfl, rfl, rfl, rfl, trivial⟩
            refine DRV.fork ?_ ?_
            · refine DRV.call rfl rfl call8 rfl rfl (within_spec hst (v := IntKind.i64.wrap (x.tdiv 4)) (n := 4) (wrap_ok _) (by unfold i64ok; decide)) ?_
              rintro e w ⟨rfl, hstn⟩
              clear hst
              have hst := hstn
              clear hstn
              rw [hj1]
              refine ⟨_, rfl, FSt w0 _ (Lv2 ++ L), FSt.lift (Imm.le.refl _), FSt.of hst (Imm.le.refl _) (by simp), ?_⟩
              refine DRV.q rfl rfl (fun w' hF => RdL.indexAddr Tryd.underlying24 ti9 (by decide) rfl rfl hV ⟨r1z, r1t⟩) ?_
              refine DRV.q rfl rfl (FSt.load1 sc9 rfl (RdS.at hV r1z r1t)) ?_
              rw [ev0]
              refine DRV.fork ?_ ?_
              · refine DRV.opE rfl rfl (runs_lit1R Tryd.underlying24 ti9 (by decide) rfl rfl rfl (by simp [Value.oneCell']) hst) ?_
                rintro u159 w ⟨I159, hI159, hstn, h159⟩
                clear hst
                have hst := hstn
                clear hstn
                replace hM := hM.mono hI159
                replace hl := hl.mono hI159
                replace h137 := h137.mono hI159
                replace hV := hV.mono hI159
                replace hle := hle.trans hI159
                refine ⟨FSt w0 _ (Lv2 ++ L), FSt.lift hI159, FSt.of hst (Imm.le.refl _) (by simp), ?_⟩
                have hN : RdS _ u159 (nmL.map strOf) := h159
                refine DRV.q rfl rfl (fun w' hF => RdL.indexAddr Tryd.underlying24 ti9 (by decide) rfl rfl hN ⟨r0z, r0t⟩) ?_
                refine DRV.q rfl rfl (FSt.load1 sc9 rfl (RdS.at hN r0z r0t)) ?_
                rw [en0]
                refine DRV.q rfl rfl (fun w' hF => runs_buildF (cells := [_, _]) bz27 rfl rfl rfl rfl rfl) ?_
                refine DRV.opE rfl rfl (runs_alloc ti27 hst) ?_
                rintro _ w ⟨b160, rfl, hstn⟩
                clear hst
                have hst := hstn
                clear hstn
                refine ⟨FSt w0 _ (Lv2 ++ L), FSt.lift (Imm.le.refl _), FSt.of hst (Imm.le.refl _) (by simp), ?_⟩
                first
                  | refine DRV.opE0 rfl (runs_storeW ti27 rfl rfl hst (k := 0) rfl rfl rfl (NoFz.zero _) rfl) ?_
                  | refine DRV.opE0 rfl (runs_storeP ti27 rfl rfl hst (k := 0) rfl rfl rfl (NoFz.zero _) rfl) ?_
                  | refine DRV.opE0 rfl (runs_storeW ti27 rfl rfl hst (k := 1) rfl rfl rfl (NoFz.zero _) rfl) ?_
                  | refine DRV.opE0 rfl (runs_storeP ti27 rfl rfl hst (k := 1) rfl rfl rfl (NoFz.zero _) rfl) ?_
                  | refine DRV.opE0 rfl (runs_storeW ti27 rfl rfl hst (k := 2) rfl rfl rfl (NoFz.zero _) rfl) ?_
                  | refine DRV.opE0 rfl (runs_storeP ti27 rfl rfl hst (k := 2) rfl rfl rfl (NoFz.zero _) rfl) ?_
                rintro w hstn
                clear hst
                have hst := hstn
                clear hstn
                try simp only [List.set_cons_zero, List.set_cons_succ] at hst
                refine ⟨FSt w0 _ (Lv2 ++ L), FSt.lift (Imm.le.refl _), FSt.of hst (Imm.le.refl _) (by simp), ?_⟩
                refine DRV.done ?_
                exact AQ.meet (_, _) ⟨hle, hM, hl, hst⟩ ⟨rfl, rfl, rfl, rfl, rfl, rfl, trivial⟩
              refine DRV.opE rfl rfl (runs_alloc ti27 hst) ?_
              rintro _ w ⟨b162, rfl, hstn⟩
              clear hst
              have hst := hstn
              clear hstn
              refine ⟨FSt w0 _ (Lv2 ++ L), FSt.lift (Imm.le.refl _), FSt.of hst (Imm.le.refl _) (by simp), ?_⟩
              refine DRV.opE rfl rfl (runs_lit1R Tryd.underlying24 ti9 (by decide) rfl rfl rfl (by simp [Value.oneCell']) hst) ?_
              rintro u163 w ⟨I163, hI163, hstn, h163⟩
              clear hst
              have hst := hstn
              clear hstn
              replace hM := hM.mono hI163
              replace hl := hl.mono hI163
              replace h137 := h137.mono hI163
              replace hV := hV.mono hI163
              replace hle := hle.trans hI163
              refine ⟨FSt w0 _ (Lv2 ++ L), FSt.lift hI163, FSt.of hst (Imm.le.refl _) (by simp), ?_⟩
              have hN : RdS _ u163 (nmL.map strOf) := h163
              refine DRV.q rfl rfl (fun w' hF => RdL.indexAddr Tryd.underlying24 ti9 (by decide) rfl rfl hN ⟨r0z, r0t⟩) ?_
              refine DRV.q rfl rfl (FSt.load1 sc9 rfl (RdS.at hN r0z r0t)) ?_
              rw [en0]
              refine DRV.q rfl rfl (fun w' hF => runs_buildF (cells := [_, _]) bz27 rfl rfl rfl rfl rfl) ?_
              first
                | refine DRV.opE0 rfl (runs_storeW ti27 rfl rfl hst (k := 0) rfl rfl rfl (NoFz.zero _) rfl) ?_
                | refine DRV.opE0 rfl (runs_storeP ti27 rfl rfl hst (k := 0) rfl rfl rfl (NoFz.zero _) rfl) ?_
                | refine DRV.opE0 rfl (runs_storeW ti27 rfl rfl hst (k := 1) rfl rfl rfl (NoFz.zero _) rfl) ?_
                | refine DRV.opE0 rfl (runs_storeP ti27 rfl rfl hst (k := 1) rfl rfl rfl (NoFz.zero _) rfl) ?_
                | refine DRV.opE0 rfl (runs_storeW ti27 rfl rfl hst (k := 2) rfl rfl rfl (NoFz.zero _) rfl) ?_
                | refine DRV.opE0 rfl (runs_storeP ti27 rfl rfl hst (k := 2) rfl rfl rfl (NoFz.zero _) rfl) ?_
              rintro w hstn
              clear hst
              have hst := hstn
              clear hstn
              try simp only [List.set_cons_zero, List.set_cons_succ] at hst
              refine ⟨FSt w0 _ (Lv2 ++ L), FSt.lift (Imm.le.refl _), FSt.of hst (Imm.le.refl _) (by simp), ?_⟩
              refine DRV.done ?_
              exact AQ.meet (_, _) ⟨hle, hM, hl, hst⟩ ⟨rfl, rfl, rfl, rfl, rfl, rfl, trivial⟩
            refine DRV.opE rfl rfl (runs_alloc ti27 hst) ?_
            rintro _ w ⟨b165, rfl, hstn⟩
            clear hst
            have hst := hstn
            clear hstn
            refine ⟨FSt w0 _ (Lv2 ++ L), FSt.lift (Imm.le.refl _), FSt.of hst (Imm.le.refl _) (by simp), ?_⟩
            refine DRV.fork ?_ ?_
            · refine DRV.opE rfl rfl (runs_lit1R Tryd.underlying24 ti9 (by decide) rfl rfl rfl (by simp [Value.oneCell']) hst) ?_
              rintro u166 w ⟨I166, hI166, hstn, h166⟩
              clear hst
              have hst := hstn
              clear hstn
              replace hM := hM.mono hI166
              replace hl := hl.mono hI166
              replace h137 := h137.mono hI166
              replace hV := hV.mono hI166
              replace hle := hle.trans hI166
              refine ⟨FSt w0 _ (Lv2 ++ L), FSt.lift hI166, FSt.of hst (Imm.le.refl _) (by simp), ?_⟩
              have hN : RdS _ u166 (nmL.map strOf) := h166
              refine DRV.q rfl rfl (fun w' hF => RdL.indexAddr Tryd.underlying24 ti9 (by decide) rfl rfl hN ⟨r0z, r0t⟩) ?_
              refine DRV.q rfl rfl (FSt.load1 sc9 rfl (RdS.at hN r0z r0t)) ?_
              rw [en0]
              refine DRV.call rfl rfl call8 rfl rfl (within_spec hst (v := IntKind.i64.wrap (x.tdiv 4)) (n := 4) (wrap_ok _) (by unfold i64ok; decide)) ?_
              rintro e w ⟨rfl, hstn⟩
              clear hst
              have hst := hstn
              clear hstn
              rw [hj1]
              refine ⟨_, rfl, FSt w0 _ (Lv2 ++ L), FSt.lift (Imm.le.refl _), FSt.of hst (Imm.le.refl _) (by simp), ?_⟩
              refine DRV.q rfl rfl (fun w' hF => RdL.indexAddr Tryd.underlying24 ti9 (by decide) rfl rfl hV ⟨r1z, r1t⟩) ?_
              refine DRV.q rfl rfl (FSt.load1 sc9 rfl (RdS.at hV r1z r1t)) ?_
              rw [ev0]
              refine DRV.q rfl rfl (fun w' hF => runs_buildF (cells := [_, _]) bz27 rfl rfl rfl rfl rfl) ?_
              first
                | refine DRV.opE0 rfl (runs_storeW ti27 rfl rfl hst (k := 0) rfl rfl rfl (NoFz.zero _) rfl) ?_
                | refine DRV.opE0 rfl (runs_storeP ti27 rfl rfl hst (k := 0) rfl rfl rfl (NoFz.zero _) rfl) ?_
                | refine DRV.opE0 rfl (runs_storeW ti27 rfl rfl hst (k := 1) rfl rfl rfl (NoFz.zero _) rfl) ?_
                | refine DRV.opE0 rfl (runs_storeP ti27 rfl rfl hst (k := 1) rfl rfl rfl (NoFz.zero _) rfl) ?_
                | refine DRV.opE0 rfl (runs_storeW ti27 rfl rfl hst (k := 2) rfl rfl rfl (NoFz.zero _) rfl) ?_
                | refine DRV.opE0 rfl (runs_storeP ti27 rfl rfl hst (k := 2) rfl rfl rfl (NoFz.zero _) rfl) ?_
              rintro w hstn
              clear hst
              have hst := hstn
              clear hstn
              try simp only [List.set_cons_zero, List.set_cons_succ] at hst
              refine ⟨FSt w0 _ (Lv2 ++ L), FSt.lift (Imm.le.refl _), FSt.of hst (Imm.le.refl _) (by simp), ?_⟩
              refine DRV.done ?_
              exact AQ.meet (_, _) ⟨hle, hM, hl, hst⟩ ⟨rfl, rfl, rfl, rfl, rfl, rfl, trivial⟩
            refine DRV.call rfl rfl call8 rfl rfl (within_spec hst (v := IntKind.i64.wrap (x.tdiv 4)) (n := 4) (wrap_ok _) (by unfold i64ok; decide)) ?_
            rintro e w ⟨rfl, hstn⟩
            clear hst
            have hst := hstn
            clear hstn
            rw [hj1]
            refine ⟨_, rfl, FSt w0 _ (Lv2 ++ L), FSt.lift (Imm.le.refl _), FSt.of hst (Imm.le.refl _) (by simp), ?_⟩
            refine DRV.q rfl rfl (fun w' hF => RdL.indexAddr Tryd.underlying24 ti9 (by decide) rfl rfl hV ⟨r1z, r1t⟩) ?_
            refine DRV.q rfl rfl (FSt.load1 sc9 rfl (RdS.at hV r1z r1t)) ?_
            rw [ev0]
            refine DRV.opE rfl rfl (runs_lit1R Tryd.underlying24 ti9 (by decide) rfl rfl rfl (by simp [Value.oneCell']) hst) ?_
            rintro u170 w ⟨I170, hI170, hstn, h170⟩
            clear hst
            have hst := hstn
            clear hstn
            replace hM := hM.mono hI170
            replace hl := hl.mono hI170
            replace h137 := h137.mono hI170
            replace hV := hV.mono hI170
            replace hle := hle.trans hI170
            refine ⟨FSt w0 _ (Lv2 ++ L), FSt.lift hI170, FSt.of hst (Imm.le.refl _) (by simp), ?_⟩
            have hN : RdS _ u170 (nmL.map strOf) := h170
            refine DRV.q rfl rfl (fun w' hF => RdL.indexAddr Tryd.underlying24 ti9 (by decide) rfl rfl hN ⟨r0z, r0t⟩) ?_
            refine DRV.q rfl rfl (FSt.load1 sc9 rfl (RdS.at hN r0z r0t)) ?_
            rw [en0]
            refine DRV.q rfl rfl (fun w' hF => runs_buildF (cells := [_, _]) bz27 rfl rfl rfl rfl rfl) ?_
            first
              | refine DRV.opE0 rfl (runs_storeW ti27 rfl rfl hst (k := 0) rfl rfl rfl (NoFz.zero _) rfl) ?_
              | refine DRV.opE0 rfl (runs_storeP ti27 rfl rfl hst (k := 0) rfl rfl rfl (NoFz.zero _) rfl) ?_
              | refine DRV.opE0 rfl (runs_storeW ti27 rfl rfl hst (k := 1) rfl rfl rfl (NoFz.zero _) rfl) ?_
              | refine DRV.opE0 rfl (runs_storeP ti27 rfl rfl hst (k := 1) rfl rfl rfl (NoFz.zero _) rfl) ?_
              | refine DRV.opE0 rfl (runs_storeW ti27 rfl rfl hst (k := 2) rfl rfl rfl (NoFz.zero _) rfl) ?_
              | refine DRV.opE0 rfl (runs_storeP ti27 rfl rfl hst (k := 2) rfl rfl rfl (NoFz.zero _) rfl) ?_
            rintro w hstn
            clear hst
            have hst := hstn
            clear hstn
            try simp only [List.set_cons_zero, List.set_cons_succ] at hst
            refine ⟨FSt w0 _ (Lv2 ++ L), FSt.lift (Imm.le.refl _), FSt.of hst (Imm.le.refl _) (by simp), ?_⟩
            refine DRV.done ?_
            exact AQ.meet (_, _) ⟨hle, hM, hl, hst⟩ ⟨rfl, rfl, rfl, rfl, rfl, rfl, trivial⟩
          refine DRV.opE rfl rfl (runs_alloc ti27 hst) ?_
          rintro _ w ⟨b172, rfl, hstn⟩
          clear hst
          have hst := hstn
          clear hstn
          refine ⟨FSt w0 _ (Lv2 ++ L), FSt.lift (Imm.le.refl _), FSt.of hst (Imm.le.refl _) (by simp), ?_⟩
          refine DRV.fork ?_ ?_
          · refine DRV.opE rfl rfl (runs_lit1R Tryd.underlying24 ti9 (by decide) rfl rfl rfl (by simp [Value.oneCell']) hst) ?_
            rintro u173 w ⟨I173, hI173, hstn, h173⟩
            clear hst
            have hst := hstn
            clear hstn
            replace hM := hM.mono hI173
            replace hl := hl.mono hI173
            replace h137 := h137.mono hI173
            replace hV := hV.mono hI173
            replace hle := hle.trans hI173
            refine ⟨FSt w0 _ (Lv2 ++ L), FSt.lift hI173, FSt.of hst (Imm.le.refl _) (by simp), ?_⟩
            have hN : RdS _ u173 (nmL.map strOf) := h173
            refine DRV.call rfl rfl call8 rfl rfl (within_spec hst (v := x) (n := 4) hxok (by unfold i64ok; decide)) ?_
            rintro e w ⟨rfl, hstn⟩
            clear hst
            have hst := hstn
            clear hstn
            rw [hj0]
            refine ⟨_, rfl, FSt w0 _ (Lv2 ++ L), FSt.lift (Imm.le.refl _), FSt.of hst (Imm.le.refl _) (by simp), ?_⟩
            refine DRV.q rfl rfl (fun w' hF => RdL.indexAddr Tryd.underlying24 ti9 (by decide) rfl rfl hN ⟨r0z, r0t⟩) ?_
            refine DRV.q rfl rfl (FSt.load1 sc9 rfl (RdS.at hN r0z r0t)) ?_
            rw [en0]
            refine DRV.call rfl rfl call8 rfl rfl (within_spec hst (v := IntKind.i64.wrap (x.tdiv 4)) (n := 4) (wrap_ok _) (by unfold i64ok; decide)) ?_
            rintro e w ⟨rfl, hstn⟩
            clear hst
            have hst := hstn
            clear hstn
            rw [hj1]
            refine ⟨_, rfl, FSt w0 _ (Lv2 ++ L), FSt.lift (Imm.le.refl _), FSt.of hst (Imm.le.refl _) (by simp), ?_⟩
            refine DRV.q rfl rfl (fun w' hF => RdL.indexAddr Tryd.underlying24 ti9 (by decide) rfl rfl hV ⟨r1z, r1t⟩) ?_
            refine DRV.q rfl rfl (FSt.load1 sc9 rfl (RdS.at hV r1z r1t)) ?_
            rw [ev0]
            refine DRV.q rfl rfl (fun w' hF => runs_buildF (cells := [_, _]) bz27 rfl rfl rfl rfl rfl) ?_
            first
              | refine DRV.opE0 rfl (runs_storeW ti27 rfl rfl hst (k := 0) rfl rfl rfl (NoFz.zero _) rfl) ?_
              | refine DRV.opE0 rfl (runs_storeP ti27 rfl rfl hst (k := 0) rfl rfl rfl (NoFz.zero _) rfl) ?_
              | refine DRV.opE0 rfl (runs_storeW ti27 rfl rfl hst (k := 1) rfl rfl rfl (NoFz.zero _) rfl) ?_
              | refine DRV.opE0 rfl (runs_storeP ti27 rfl rfl hst (k := 1) rfl rfl rfl (NoFz.zero _) rfl) ?_
              | refine DRV.opE0 rfl (runs_storeW ti27 rfl rfl hst (k := 2) rfl rfl rfl (NoFz.zero _) rfl) ?_
              | refine DRV.opE0 rfl (runs_storeP ti27 rfl rfl hst (k := 2) rfl rfl rfl (NoFz.zero _) rfl) ?_
            rintro w hstn
            clear hst
            have hst := hstn
            clear hstn
            try simp only [List.set_cons_zero, List.set_cons_succ] at hst
            refine ⟨FSt w0 _ (Lv2 ++ L), FSt.lift (Imm.le.refl _), FSt.of hst (Imm.le.refl _) (by simp), ?_⟩
            refine DRV.done ?_
            exact AQ.meet (_, _) ⟨hle, hM, hl, hst⟩ ⟨rfl, rfl, rfl, rfl, rfl, rfl, trivial⟩
          refine DRV.call rfl rfl call8 rfl rfl (within_spec hst (v := x) (n := 4) hxok (by unfold i64ok; decide)) ?_
          rintro e w ⟨rfl, hstn⟩
          clear hst
          have hst := hstn
          clear hstn
          rw [hj0]
          refine ⟨_, rfl, FSt w0 _ (Lv2 ++ L), FSt.lift (Imm.le.refl _), FSt.of hst (Imm.le.refl _) (by simp), ?_⟩
          refine DRV.fork ?_ ?_
          · refine DRV.opE rfl rfl (runs_lit1R Tryd.underlying24 ti9 (by decide) rfl rfl rfl (by simp [Value.oneCell']) hst) ?_
            rintro u178 w ⟨I178, hI178, hstn, h178⟩
            clear hst
            have hst := hstn
            clear hstn
            replace hM := hM.mono hI178
            replace hl := hl.mono hI178
            replace h137 := h137.mono hI178
            replace hV := hV.mono hI178
            replace hle := hle.trans hI178
            refine ⟨FSt w0 _ (Lv2 ++ L), FSt.lift hI178, FSt.of hst (Imm.le.refl _) (by simp), ?_⟩
            have hN : RdS _ u178 (nmL.map strOf) := h178
            refine DRV.q rfl rfl (fun w' hF => RdL.indexAddr Tryd.underlying24 ti9 (by decide) rfl rfl hN ⟨r0z, r0t⟩) ?_
            refine DRV.q rfl rfl (FSt.load1 sc9 rfl (RdS.at hN r0z r0t)) ?_
            rw [en0]
            refine DRV.call rfl rfl call8 rfl rfl (within_spec hst (v := IntKind.i64.wrap (x.tdiv 4)) (n := 4) (wrap_ok _) (by unfold i64ok; decide)) ?_
            rintro e w ⟨rfl, hstn⟩
            clear hst
            have hst := hstn
            clear hstn
            rw [hj1]
            refine ⟨_, rfl, FSt w0 _ (Lv2 ++ L), FSt.lift (Imm.le.refl _), FSt.of hst (Imm.le.refl _) (by simp), ?_⟩
            refine DRV.q rfl rfl (fun w' hF => RdL.indexAddr Tryd.underlying24 ti9 (by decide) rfl rfl hV ⟨r1z, r1t⟩) ?_
            refine DRV.q rfl rfl (FSt.load1 sc9 rfl (RdS.at hV r1z r1t)) ?_
            rw [ev0]
            refine DRV.q rfl rfl (fun w' hF => runs_buildF (cells := [_, _]) bz27 rfl rfl rfl rfl rfl) ?_
            first
              | refine DRV.opE0 rfl (runs_storeW ti27 rfl rfl hst (k := 0) rfl rfl rfl (NoFz.zero _) rfl) ?_
              | refine DRV.opE0 rfl (runs_storeP ti27 rfl rfl hst (k := 0) rfl rfl rfl (NoFz.zero _) rfl) ?_
              | refine DRV.opE0 rfl (runs_storeW ti27 rfl rfl hst (k := 1) rfl rfl rfl (NoFz.zero _) rfl) ?_
              | refine DRV.opE0 rfl (runs_storeP ti27 rfl rfl hst (k := 1) rfl rfl rfl (NoFz.zero _) rfl) ?_
              | refine DRV.opE0 rfl (runs_storeW ti27 rfl rfl hst (k := 2) rfl rfl rfl (NoFz.zero _) rfl) ?_
              | refine DRV.opE0 rfl (runs_storeP ti27 rfl rfl hst (k := 2) rfl rfl rfl (NoFz.zero _) rfl) ?_
            rintro w hstn
            clear hst
            have hst := hstn
            clear hstn
            try simp only [List.set_cons_zero, List.set_cons_succ] at hst
            refine ⟨FSt w0 _ (Lv2 ++ L), FSt.lift (Imm.le.refl _), FSt.of hst (Imm.le.refl _) (by simp), ?_⟩
            refine DRV.done ?_
            exact AQ.meet (_, _) ⟨hle, hM, hl, hst⟩ ⟨rfl, rfl, rfl, rfl, rfl, rfl, trivial⟩
          refine DRV.call rfl rfl call8 rfl rfl (within_spec hst (v := IntKind.i64.wrap (x.tdiv 4)) (n := 4) (wrap_ok _) (by unfold i64ok; decide)) ?_
          rintro e w ⟨rfl, hstn⟩
          clear hst
          have hst := hstn
          clear hstn
          rw [hj1]
          refine ⟨_, rfl, FSt w0 _ (Lv2 ++ L), FSt.lift (Imm.le.refl _), FSt.of hst (Imm.le.refl _) (by simp), ?_⟩
          refine DRV.q rfl rfl (fun w' hF => RdL.indexAddr Tryd.underlying24 ti9 (by decide) rfl rfl hV ⟨r1z, r1t⟩) ?_
          refine DRV.q rfl rfl (FSt.load1 sc9 rfl (RdS.at hV r1z r1t)) ?_
          rw [ev0]
          refine DRV.opE rfl rfl (runs_lit1R Tryd.underlying24 ti9 (by decide) rfl rfl rfl (by simp [Value.oneCell']) hst) ?_
          rintro u182 w ⟨I182, hI182, hstn, h182⟩
          clear hst
          have hst := hstn
          clear hstn
          replace hM := hM.mono hI182
          replace hl := hl.mono hI182
          replace h137 := h137.mono hI182
          replace hV := hV.mono hI182
          replace hle := hle.trans hI182
          refine ⟨FSt w0 _ (Lv2 ++ L), FSt.lift hI182, FSt.of hst (Imm.le.refl _) (by simp), ?_⟩
          have hN : RdS _ u182 (nmL.map strOf) := h182
          refine DRV.q rfl rfl (fun w' hF => RdL.indexAddr Tryd.underlying24 ti9 (by decide) rfl rfl hN ⟨r0z, r0t⟩) ?_
          refine DRV.q rfl rfl (FSt.load1 sc9 rfl (RdS.at hN r0z r0t)) ?_
          rw [en0]
          refine DRV.q rfl rfl (fun w' hF => runs_buildF (cells := [_, _]) bz27 rfl rfl rfl rfl rfl) ?_
          first
            | refine DRV.opE0 rfl (runs_storeW ti27 rfl rfl hst (k := 0) rfl rfl rfl (NoFz.zero _) rfl) ?_
            | refine DRV.opE0 rfl (runs_storeP ti27 rfl rfl hst (k := 0) rfl rfl rfl (NoFz.zero _) rfl) ?_
            | refine DRV.opE0 rfl (runs_storeW ti27 rfl rfl hst (k := 1) rfl rfl rfl (NoFz.zero _) rfl) ?_
            | refine DRV.opE0 rfl (runs_storeP ti27 rfl rfl hst (k := 1) rfl rfl rfl (NoFz.zero _) rfl) ?_
            | refine DRV.opE0 rfl (runs_storeW ti27 rfl rfl hst (k := 2) rfl rfl rfl (NoFz.zero _) rfl) ?_
            | refine DRV.opE0 rfl (runs_storeP ti27 rfl rfl hst (k := 2) rfl rfl rfl (NoFz.zero _) rfl) ?_
          rintro w hstn
          clear hst
          have hst := hstn
          clear hstn
          try simp only [List.set_cons_zero, List.set_cons_succ] at hst
          refine ⟨FSt w0 _ (Lv2 ++ L), FSt.lift (Imm.le.refl _), FSt.of hst (Imm.le.refl _) (by simp), ?_⟩
          refine DRV.done ?_
          exact AQ.meet (_, _) ⟨hle, hM, hl, hst⟩ ⟨rfl, rfl, rfl, rfl, rfl, rfl, trivial⟩
        refine DRV.opE rfl rfl (runs_alloc ti27 hst) ?_
        rintro _ w ⟨b184, rfl, hstn⟩
        clear hst
        have hst := hstn
        clear hstn
        refine ⟨FSt w0 _ (Lv2 ++ L), FSt.lift (Imm.le.refl _), FSt.of hst (Imm.le.refl _) (by simp), ?_⟩
        refine DRV.fork ?_ ?_
        · refine DRV.opE rfl rfl (runs_lit1R Tryd.underlying24 ti9 (by decide) rfl rfl rfl (by simp [Value.oneCell']) hst) ?_
          rintro u185 w ⟨I185, hI185, hstn, h185⟩
          clear hst
          have hst := hstn
          clear hstn
          replace hM := hM.mono hI185
          replace hl := hl.mono hI185
          replace hle := hle.trans hI185
          refine ⟨FSt w0 _ (Lv2 ++ L), FSt.lift hI185, FSt.of hst (Imm.le.refl _) (by simp), ?_⟩
          have hN : RdS _ u185 (nmL.map strOf) := h185
          refine DRV.fork ?_ ?_
          · refine DRV.call rfl rfl call8 rfl rfl (within_spec hst (v := x) (n := 4) hxok (by unfold i64ok; decide)) ?_
            rintro e w ⟨rfl, hstn⟩
            clear hst
            have hst := hstn
            clear hstn
            rw [hj0]
            refine ⟨_, rfl, FSt w0 _ (Lv2 ++ L), FSt.lift (Imm.le.refl _), FSt.of hst (Imm.le.refl _) (by simp), ?_⟩
            refine DRV.q rfl rfl (fun w' hF => RdL.indexAddr Tryd.underlying24 ti9 (by decide) rfl rfl hN ⟨r0z, r0t⟩) ?_
            refine DRV.q rfl rfl (FSt.load1 sc9 rfl (RdS.at hN r0z r0t)) ?_
            rw [en0]
            refine DRV.fork ?_ ?_
            · refine DRV.opE rfl rfl (runs_lit1R Tryd.underlying24 ti9 (by decide) rfl rfl rfl (by simp [Value.oneCell']) hst) ?_
              rintro u187 w ⟨I187, hI187, hstn, h187⟩
              clear hst
              have hst := hstn
              clear hstn
              replace hM := hM.mono hI187
              replace hl := hl.mono hI187
              replace h185 := h185.mono hI187
              replace hN := hN.mono hI187
              replace hle := hle.trans hI187
              refine ⟨FSt w0 _ (Lv2 ++ L), FSt.lift hI187, FSt.of hst (Imm.le.refl _) (by simp), ?_⟩
              have hV : RdS _ u187 (valL.map strOf) := h187
              refine DRV.call rfl rfl call8 rfl rfl (within_spec hst (v := IntKind.i64.wrap (x.tdiv 4)) (n := 4) (wrap_ok _) (by unfold i64ok; decide)) ?_
              rintro e w ⟨rfl, hstn⟩
              clear hst
              have hst := hstn
              clear hstn
              rw [hj1]
              refine ⟨_, rfl, FSt w0 _ (Lv2 ++ L), FSt.lift (Imm.le.refl _), FSt.of hst (Imm.le.refl _) (by simp), ?_⟩
              refine DRV.q rfl rfl (fun w' hF => RdL.indexAddr Tryd.underlying24 ti9 (by decide) rfl rfl hV ⟨r1z, r1t⟩) ?_
              refine DRV.q rfl rfl (FSt.load1 sc9 rfl (RdS.at hV r1z r1t)) ?_
              rw [ev0]
              refine DRV.q rfl rfl (fun w' hF => runs_buildF (cells := [_, _]) bz27 rfl rfl rfl rfl rfl) ?_
              first
                | refine DRV.opE0 rfl (runs_storeW ti27 rfl rfl hst (k := 0) rfl rfl rfl (NoFz.zero _) rfl) ?_
                | refine DRV.opE0 rfl (runs_storeP ti27 rfl rfl hst (k := 0) rfl rfl rfl (NoFz.zero _) rfl) ?_
                | refine DRV.opE0 rfl (runs_storeW ti27 rfl rfl hst (k := 1) rfl rfl rfl (NoFz.zero _) rfl) ?_
                | refine DRV.opE0 rfl (runs_storeP ti27 rfl rfl hst (k := 1) rfl rfl rfl (NoFz.zero _) rfl) ?_
                | refine DRV.opE0 rfl (runs_storeW ti27 rfl rfl hst (k := 2) rfl rfl rfl (NoFz.zero _) rfl) ?_
                | refine DRV.opE0 rfl (runs_storeP ti27 rfl rfl hst (k := 2) rfl rfl rfl (NoFz.zero _) rfl) ?_
              rintro w hstn
              clear hst
              have hst := hstn
              clear hstn
              try simp only [List.set_cons_zero, List.set_cons_succ] at hst
              refine ⟨FSt w0 _ (Lv2 ++ L), FSt.lift (Imm.le.refl _), FSt.of hst (Imm.le.refl _) (by simp), ?_⟩
              refine DRV.done ?_
              exact AQ.meet (_, _) ⟨hle, hM, hl, hst⟩ ⟨rfl, rfl, rfl, rfl, rfl, rfl, trivial⟩
            refine DRV.call rfl rfl call8 rfl rfl (within_spec hst (v := IntKind.i64.wrap (x.tdiv 4)) (n := 4) (wrap_ok _) (by unfold i64ok; decide)) ?_
            rintro e w ⟨rfl, hstn⟩
            clear hst
            have hst := hstn
            clear hstn
            rw [hj1]
            refine ⟨_, rfl, FSt w0 _ (Lv2 ++ L), FSt.lift (Imm.le.refl _), FSt.of hst (Imm.le.refl _) (by simp), ?_⟩
            refine DRV.opE rfl rfl (runs_lit1R Tryd.underlying24 ti9 (by decide) rfl rfl rfl (by simp [Value.oneCell']) hst) ?_
            rintro u191 w ⟨I191, hI191, hstn, h191⟩
            clear hst
            have hst := hstn
            clear hstn
            replace hM := hM.mono hI191
            replace hl := hl.mono hI191
            replace h185 := h185.mono hI191
            replace hN := hN.mono hI191
            replace hle := hle.trans hI191
            refine ⟨FSt w0 _ (Lv2 ++ L), FSt.lift hI191, FSt.of hst (Imm.le.refl _) (by simp), ?_⟩
            have hV : RdS _ u191 (valL.map strOf) := h191
            refine DRV.q rfl rfl (fun w' hF => RdL.indexAddr Tryd.underlying24 ti9 (by decide) rfl rfl hV ⟨r1z, r1t⟩) ?_
            refine DRV.q rfl rfl (FSt.load1 sc9 rfl (RdS.at hV r1z r1t)) ?_
            rw [ev0]
            refine DRV.q rfl rfl (fun w' hF => runs_buildF (cells := [_, _]) bz27 rfl rfl rfl rfl rfl) ?_
            first
              | refine DRV.opE0 rfl (runs_storeW ti27 rfl rfl hst (k := 0) rfl rfl rfl (NoFz.zero _) rfl) ?_
              | refine DRV.opE0 rfl (runs_storeP ti27 rfl rfl hst (k := 0) rfl rfl rfl (NoFz.zero _) rfl) ?_
              | refine DRV.opE0 rfl (runs_storeW ti27 rfl rfl hst (k := 1) rfl rfl rfl (NoFz.zero _) rfl) ?_
              | refine DRV.opE0 rfl (runs_storeP ti27 rfl rfl hst (k := 1) rfl rfl rfl (NoFz.zero _) rfl) ?_
              | refine DRV.opE0 rfl (runs_storeW ti27 rfl rfl hst (k := 2) rfl rfl rfl (NoFz.zero _) rfl) ?_
              | refine DRV.opE0 rfl (runs_storeP ti27 rfl rfl hst (k := 2) rfl rfl rfl (NoFz.zero _) rfl) ?_
            rintro w hstn
            clear hst
            have hst := hstn
            clear hstn
            try simp only [List.set_cons_zero, List.set_cons_succ] at hst
            refine ⟨FSt w0 _ (Lv2 ++ L), FSt.lift (Imm.le.refl _), FSt.of hst (Imm.le.refl _) (by simp), ?_⟩
            refine DRV.done ?_
            exact AQ.meet (_, _) ⟨hle, hM, hl, hst⟩ ⟨rfl, rfl, rfl, rfl, rfl, rfl, trivial⟩
          refine DRV.opE rfl rfl (runs_lit1R Tryd.underlying24 ti9 (by decide) rfl rfl rfl (by simp [Value.oneCell']) hst) ?_
          rintro u193 w ⟨I193, hI193, hstn, h193⟩
          clear hst
          have hst := hstn
          clear hstn
          replace hM := hM.mono hI193
          replace hl := hl.mono hI193
          replace h185 := h185.mono hI193
          replace hN := hN.mono hI193
          replace hle := hle.trans hI193
          refine ⟨FSt w0 _ (Lv2 ++ L), FSt.lift hI193, FSt.of hst (Imm.le.refl _) (by simp), ?_⟩
          have hV : RdS _ u193 (valL.map strOf) := h193
          refine DRV.call rfl rfl call8 rfl rfl (within_spec hst (v := x) (n := 4) hxok (by unfold i64ok; decide)) ?_
          rintro e w ⟨rfl, hstn⟩
          clear hst
          have hst := hstn
          clear hstn
          rw [hj0]
          refine ⟨_, rfl, FSt w0 _ (Lv2 ++ L), FSt.lift (Imm.le.refl _), FSt.of hst (Imm.le.refl _) (by simp), ?_⟩
          refine DRV.q rfl rfl (fun w' hF => RdL.indexAddr Tryd.underlying24 ti9 (by decide) rfl rfl hN ⟨r0z, r0t⟩) ?_
          refine DRV.q rfl rfl (FSt.load1 sc9 rfl (RdS.at hN r0z r0t)) ?_
          rw [en0]
          refine DRV.call rfl rfl call8 rfl rfl (within_spec hst (v := IntKind.i64.wrap (x.tdiv 4)) (n := 4) (wrap_ok _) (by unfold i64ok; decide)) ?_
          rintro e w ⟨rfl, hstn⟩
          clear hst
          have hst := hstn
          clear hstn
          rw [hj1]
          refine ⟨_, rfl, FSt w0 _ (Lv2 ++ L), FSt.lift (Imm.le.refl _), FSt.of hst (Imm.le.refl _) (by simp), ?_⟩
          refine DRV.q rfl rfl (fun w' hF => RdL.indexAddr Tryd.underlying24 ti9 (by decide) rfl rfl hV ⟨r1z, r1t⟩) ?_
          refine DRV.q rfl rfl (FSt.load1 sc9 rfl (RdS.at hV r1z r1t)) ?_
          rw [ev0]
          refine DRV.q rfl rfl (fun w' hF => runs_buildF (cells := [_, _]) bz27 rfl rfl rfl rfl rfl) ?_
          first
            | refine DRV.opE0 rfl (runs_storeW ti27 rfl rfl hst (k := 0) rfl rfl rfl (NoFz.zero _) rfl) ?_
            | refine DRV.opE0 rfl (runs_storeP ti27 rfl rfl hst (k := 0) rfl rfl rfl (NoFz.zero _) rfl) ?_
            | refine DRV.opE0 rfl (runs_storeW ti27 rfl rfl hst (k := 1) rfl rfl rfl (NoFz.zero _) rfl) ?_
            | refine DRV.opE0 rfl (runs_storeP ti27 rfl rfl hst (k := 1) rfl rfl rfl (NoFz.zero _) rfl) ?_
            | refine DRV.opE0 rfl (runs_storeW ti27 rfl rfl hst (k := 2) rfl rfl rfl (NoFz.zero _) rfl) ?_
            | refine DRV.opE0 rfl (runs_storeP ti27 rfl rfl hst (k := 2) rfl rfl rfl (NoFz.zero _) rfl) ?_
          rintro w hstn
          clear hst
          have hst := hstn
          clear hstn
          try simp only [List.set_cons_zero, List.set_cons_succ] at hst
          refine ⟨FSt w0 _ (Lv2 ++ L), FSt.lift (Imm.le.refl _), FSt.of hst (Imm.le.refl _) (by simp), ?_⟩
          refine DRV.done ?_
          exact AQ.meet (_, _) ⟨hle, hM, hl, hst⟩ ⟨rfl, rfl, rfl, rfl, rfl, rfl, trivial⟩
        refine DRV.fork ?_ ?_
        · refine DRV.call rfl rfl call8 rfl rfl (within_spec hst (v := x) (n := 4) hxok (by unfold i64ok; decide)) ?_
          rintro e w ⟨rfl, hstn⟩
          clear hst
          have hst := hstn
          clear hstn
          rw [hj0]
          refine ⟨_, rfl, FSt w0 _ (Lv2 ++ L), FSt.lift (Imm.le.refl _), FSt.of hst (Imm.le.refl _) (by simp), ?_⟩
          refine DRV.fork ?_ ?_
          · refine DRV.opE rfl rfl (runs_lit1R Tryd.underlying24 ti9 (by decide) rfl rfl rfl (by simp [Value.oneCell']) hst) ?_
            rintro u198 w ⟨I198, hI198, hstn, h198⟩
            clear hst
            have hst := hstn
            clear hstn
            replace hM := hM.mono hI198
            replace hl := hl.mono hI198
            replace hle := hle.trans hI198
            refine ⟨FSt w0 _ (Lv2 ++ L), FSt.lift hI198, FSt.of hst (Imm.le.refl _) (by simp), ?_⟩
            have hN : RdS _ u198 (nmL.map strOf) := h198
            refine DRV.q rfl rfl (fun w' hF => RdL.indexAddr Tryd.underlying24 ti9 (by decide) rfl rfl hN ⟨r0z, r0t⟩) ?_
            refine DRV.q rfl rfl (FSt.load1 sc9 rfl (RdS.at hN r0z r0t)) ?_
            rw [en0]
            refine DRV.fork ?_ ?_
            · refine DRV.opE rfl rfl (runs_lit1R Tryd.underlying24 ti9 (by decide) rfl rfl rfl (by simp [Value.oneCell']) hst) ?_
              rintro u199 w ⟨I199, hI199, hstn, h199⟩
              clear hst
              have hst := hstn
              clear hstn
              replace hM := hM.mono hI199
              replace hl := hl.mono hI199
              replace h198 := h198.mono hI199
              replace hN := hN.mono hI199
              replace hle := hle.trans hI199
              refine ⟨FSt w0 _ (Lv2 ++ L), FSt.lift hI199, FSt.of hst (Imm.le.refl _) (by simp), ?_⟩
              have hV : RdS _ u199 (valL.map strOf) := h199
              refine DRV.call rfl rfl call8 rfl rfl (within_spec hst (v := IntKind.i64.wrap (x.tdiv 4)) (n := 4) (wrap_ok _) (by unfold i64ok; decide)) ?_
              rintro e w ⟨rfl, hstn⟩
              clear hst
              have hst := hstn
              clear hstn
              rw [hj1]
              refine ⟨_, rfl, FSt w0 _ (Lv2 ++ L), FSt.lift (Imm.le.refl _), FSt.of hst (Imm.le.refl _) (by simp), ?_⟩
              refine DRV.q rfl rfl (fun w' hF => RdL.indexAddr Tryd.underlying24 ti9 (by decide) rfl rfl hV ⟨r1z, r1t⟩) ?_
              refine DRV.q rfl rfl (FSt.load1 sc9 rfl (RdS.at hV r1z r1t)) ?_
              rw [ev0]
              refine DRV.q rfl rfl (fun w' hF => runs_buildF (cells := [_, _]) bz27 rfl rfl rfl rfl rfl) ?_
              first
                | refine DRV.opE0 rfl (runs_storeW ti27 rfl rfl hst (k := 0) rfl rfl rfl (NoFz.zero _) rfl) ?_
                | refine DRV.opE0 rfl (runs_storeP ti27 rfl rfl hst (k := 0) rfl rfl rfl (NoFz.zero _) rfl) ?_
                | refine DRV.opE0 rfl (runs_storeW ti27 rfl rfl hst (k := 1) rfl rfl rfl (NoFz.zero _) rfl) ?_
                | refine DRV.opE0 rfl (runs_storeP ti27 rfl rfl hst (k := 1) rfl rfl rfl (NoFz.zero _) rfl) ?_
                | refine DRV.opE0 rfl (runs_storeW ti27 rfl rfl hst (k := 2) rfl rfl rfl (NoFz.zero _) rfl) ?_
                | refine DRV.opE0 rfl (runs_storeP ti27 rfl rfl hst (k := 2) rfl rfl rfl (NoFz.zero _) rfl) ?_
              rintro w hstn
              clear hst
              have hst := hstn
              clear hstn
              try simp only [List.set_cons_zero, List.set_cons_succ] at hst
              refine ⟨FSt w0 _ (Lv2 ++ L), FSt.lift (Imm.le.refl _), FSt.of hst (Imm.le.refl _) (by simp), ?_⟩
              refine DRV.done ?_
              exact AQ.meet (_, _) ⟨hle, hM, hl, hst⟩ ⟨rfl, rfl, rfl, rfl, rfl, rfl, trivial⟩
            refine DRV.call rfl rfl call8 rfl rfl (within_spec hst (v := IntKind.i64.wrap (x.tdiv 4)) (n := 4) (wrap_ok _) (by unfold i64ok; decide)) ?_
            rintro e w ⟨rfl, hstn⟩
            clear hst
            have hst := hstn
            clear hstn
            rw [hj1]
            refine ⟨_, rfl, FSt w0 _ (Lv2 ++ L), FSt.lift (Imm.le.refl _), FSt.of hst (Imm.le.refl _) (by simp), ?_⟩
            refine DRV.opE rfl rfl (runs_lit1R Tryd.underlying24 ti9 (by decide) rfl rfl rfl (by simp [Value.oneCell']) hst) ?_
            rintro u203 w ⟨I203, hI203, hstn, h203⟩
            clear hst
            have hst := hstn
            clear hstn
            replace hM := hM.mono hI203
            replace hl := hl.mono hI203
            replace h198 := h198.mono hI203
            replace hN := hN.mono hI203
            replace hle := hle.trans hI203
            refine ⟨FSt w0 _ (Lv2 ++ L), FSt.lift hI203, FSt.of hst (Imm.le.refl _) (by simp), ?_⟩
            have hV : RdS _ u203 (valL.map strOf) := h203
            refine DRV.q rfl rfl (fun w' hF => RdL.indexAddr Tryd.underlying24 ti9 (by decide) rfl rfl hV ⟨r1z, r1t⟩) ?_
            refine DRV.q rfl rfl (FSt.load1 sc9 rfl (RdS.at hV r1z r1t)) ?_
            rw [ev0]
            refine DRV.q rfl rfl (fun w' hF => runs_buildF (cells := [_, _]) bz27 rfl rfl rfl rfl rfl) ?_
            first
              | refine DRV.opE0 rfl (runs_storeW ti27 rfl rfl hst (k := 0) rfl rfl rfl (NoFz.zero _) rfl) ?_
              | refine DRV.opE0 rfl (runs_storeP ti27 rfl rfl hst (k := 0) rfl rfl rfl (NoFz.zero _) rfl) ?_
              | refine DRV.opE0 rfl (runs_storeW ti27 rfl rfl hst (k := 1) rfl rfl rfl (NoFz.zero _) rfl) ?_
              | refine DRV.opE0 rfl (runs_storeP ti27 rfl rfl hst (k := 1) rfl rfl rfl (NoFz.zero _) rfl) ?_
              | refine DRV.opE0 rfl (runs_storeW ti27 rfl rfl hst (k := 2) rfl rfl rfl (NoFz.zero _) rfl) ?_
              | refine DRV.opE0 rfl (runs_storeP ti27 rfl rfl hst (k := 2) rfl rfl rfl (NoFz.zero _) rfl) ?_
            rintro w hstn
            clear hst
            have hst := hstn
            clear hstn
            try simp only [List.set_cons_zero, List.set_cons_succ] at hst
            refine ⟨FSt w0 _ (Lv2 ++ L), FSt.lift (Imm.le.refl _), FSt.of hst (Imm.le.refl _) (by simp), ?_⟩
            refine DRV.done ?_
            exact AQ.meet (_, _) ⟨hle, hM, hl, hst⟩ ⟨rfl, rfl, rfl, rfl, rfl, rfl, trivial⟩
          refine DRV.fork ?_ ?_
          · refine DRV.opE rfl rfl (runs_lit1R Tryd.underlying24 ti9 (by decide) rfl rfl rfl (by simp [Value.oneCell']) hst) ?_
            rintro u205 w ⟨I205, hI205, hstn, h205⟩
            clear hst
            have hst := hstn
            clear hstn
            replace hM := hM.mono hI205
            replace hl := hl.mono hI205
            replace hle := hle.trans hI205
            refine ⟨FSt w0 _ (Lv2 ++ L), FSt.lift hI205, FSt.of hst (Imm.le.refl _) (by simp), ?_⟩
            have hV : RdS _ u205 (valL.map strOf) := h205
            refine DRV.fork ?_ ?_
            · refine DRV.opE rfl rfl (runs_lit1R Tryd.underlying24 ti9 (by decide) rfl rfl rfl (by simp [Value.oneCell']) hst) ?_
              rintro u206 w ⟨I206, hI206, hstn, h206⟩
              clear hst
              have hst := hstn
              clear hstn
              replace hM := hM.mono hI206
              replace hl := hl.mono hI206
              replace h205 := h205.mono hI206
              replace hV := hV.mono hI206
              replace hle := hle.trans hI206
              refine ⟨FSt w0 _ (Lv2 ++ L), FSt.lift hI206, FSt.of hst (Imm.le.refl _) (by simp), ?_⟩
              have hN : RdS _ u206 (nmL.map strOf) := h206
              refine DRV.q rfl rfl (fun w' hF => RdL.indexAddr Tryd.underlying24 ti9 (by decide) rfl rfl hN ⟨r0z, r0t⟩) ?_
              refine DRV.q rfl rfl (FSt.load1 sc9 rfl (RdS.at hN r0z r0t)) ?_
              rw [en0]
              refine DRV.call rfl rfl call8 rfl rfl (within_spec hst (v := IntKind.i64.wrap (x.tdiv 4)) (n := 4) (wrap_ok _) (by unfold i64ok; decide)) ?_
              rintro e w ⟨rfl, hstn⟩
              clear hst
              have hst := hstn
              clear hstn
              rw [hj1]
              refine ⟨_, rfl, FSt w0 _ (Lv2 ++ L), FSt.lift (Imm.le.refl _), FSt.of hst (Imm.le.refl _) (by simp), ?_⟩
              refine DRV.q rfl rfl (fun w' hF => RdL.indexAddr Tryd.underlying24 ti9 (by decide) rfl rfl hV ⟨r1z, r1t⟩) ?_
              refine DRV.q rfl rfl (FSt.load1 sc9 rfl (RdS.at hV r1z r1t)) ?_
              rw [ev0]
              refine DRV.q rfl rfl (fun w' hF => runs_buildF (cells := [_, _]) bz27 rfl rfl rfl rfl rfl) ?_
              first
                | refine DRV.opE0 rfl (runs_storeW ti27 rfl rfl hst (k := 0) rfl rfl rfl (NoFz.zero _) rfl) ?_
                | refine DRV.opE0 rfl (runs_storeP ti27 rfl rfl hst (k := 0) rfl rfl rfl (NoFz.zero _) rfl) ?_
                | refine DRV.opE0 rfl (runs_storeW ti27 rfl rfl hst (k := 1) rfl rfl rfl (NoFz.zero _) rfl) ?_
                | refine DRV.opE0 rfl (runs_storeP ti27 rfl rfl hst (k := 1) rfl rfl rfl (NoFz.zero _) rfl) ?_
                | refine DRV.opE0 rfl (runs_storeW ti27 rfl rfl hst (k := 2) rfl rfl rfl (NoFz.zero _) rfl) ?_
                | refine DRV.opE0 rfl (runs_storeP ti27 rfl rfl hst (k := 2) rfl rfl rfl (NoFz.zero _) rfl) ?_
              rintro w hstn
              clear hst
              have hst := hstn
              clear hstn
              try simp only [List.set_cons_zero, List.set_cons_succ] at hst
              refine ⟨FSt w0 _ (Lv2 ++ L), FSt.lift (Imm.le.refl _), FSt.of hst (Imm.le.refl _) (by simp), ?_⟩
              refine DRV.done ?_
              exact AQ.meet (_, _) ⟨hle, hM, hl, hst⟩ ⟨rfl, rfl, rfl, rfl, rfl, rfl, trivial⟩
            refine DRV.call rfl rfl call8 rfl rfl (within_spec hst (v := IntKind.i64.wrap (x.tdiv 4)) (n := 4) (wrap_ok _) (by unfold i64ok; decide)) ?_
            rintro e w ⟨rfl, hstn⟩
            clear hst
            have hst := hstn
            clear hstn
            rw [hj1]
            refine ⟨_, rfl, FSt w0 _ (Lv2 ++ L), FSt.lift (Imm.le.refl _), FSt.of hst (Imm.le.refl _) (by simp), ?_⟩
            refine DRV.q rfl rfl (fun w' hF => RdL.indexAddr Tryd.underlying24 ti9 (by decide) rfl rfl hV ⟨r1z, r1t⟩) ?_
            refine DRV.q rfl rfl (FSt.load1 sc9 rfl (RdS.at hV r1z r1t)) ?_
            rw [ev0]
            refine DRV.opE rfl rfl (runs_lit1R Tryd.underlying24 ti9 (by decide) rfl rfl rfl (by simp [Value.oneCell']) hst) ?_
            rintro u210 w ⟨I210, hI210, hstn, h210⟩
            clear hst
            have hst := hstn
            clear hstn
            replace hM := hM.mono hI210
            replace hl := hl.mono hI210
            replace h205 := h205.mono hI210
            replace hV := hV.mono hI210
            replace hle := hle.trans hI210
            refine ⟨FSt w0 _ (Lv2 ++ L), FSt.lift hI210, FSt.of hst (Imm.le.refl _) (by simp), ?_⟩
            have hN : RdS _ u210 (nmL.map strOf) := h210
            refine DRV.q rfl rfl (fun w' hF => RdL.indexAddr Tryd.underlying24 ti9 (by decide) rfl rfl hN ⟨r0z, r0t⟩) ?_
            refine DRV.q rfl rfl (FSt.load1 sc9 rfl (RdS.at hN r0z r0t)) ?_
            rw [en0]
            refine DRV.q rfl rfl (fun w' hF => runs_buildF (cells := [_, _]) bz27 rfl rfl rfl rfl rfl) ?_
            first
              | refine DRV.opE0 rfl (runs_storeW ti27 rfl rfl hst (k := 0) rfl rfl rfl (NoFz.zero _) rfl) ?_
              | refine DRV.opE0 rfl (runs_storeP ti27 rfl rfl hst (k := 0) rfl rfl rfl (NoFz.zero _) rfl) ?_
              | refine DRV.opE0 rfl (runs_storeW ti27 rfl rfl hst (k := 1) rfl rfl rfl (NoFz.zero _) rfl) ?_
              | refine DRV.opE0 rfl (runs_storeP ti27 rfl rfl hst (k := 1) rfl rfl rfl (NoFz.zero _) rfl) ?_
              | refine DRV.opE0 rfl (runs_storeW ti27 rfl rfl hst (k := 2) rfl rfl rfl (NoFz.zero _) rfl) ?_
              | refine DRV.opE0 rfl (runs_storeP ti27 rfl rfl hst (k := 2) rfl rfl rfl (NoFz.zero _) rfl) ?_
            rintro w hstn
            clear hst
            have hst := hstn
            clear hstn
            try simp only [List.set_cons_zero, List.set_cons_succ] at hst
            refine ⟨FSt w0 _ (Lv2 ++ L), FSt.lift (Imm.le.refl _), FSt.of hst (Imm.le.refl _) (by simp), ?_⟩
            refine DRV.done ?_
            exact AQ.meet (_, _) ⟨hle, hM, hl, hst⟩ ⟨rfl, rfl, rfl, rfl, rfl, rfl, trivial⟩
          refine DRV.call rfl rfl call8 rfl rfl (within_spec hst (v := IntKind.i64.wrap (x.tdiv 4)) (n := 4) (wrap_ok _) (by unfold i64ok; decide)) ?_
          rintro e w ⟨rfl, hstn⟩
          clear hst
          have hst := hstn
          clear hstn
          rw [hj1]
          refine ⟨_, rfl, FSt w0 _ (Lv2 ++ L), FSt.lift (Imm.le.refl _), FSt.of hst (Imm.le.refl _) (by simp), ?_⟩
          refine DRV.fork ?_ ?_
          · refine DRV.opE rfl rfl (runs_lit1R Tryd.underlying24 ti9 (by decide) rfl rfl rfl (by simp [Value.oneCell']) hst) ?_
            rintro u213 w ⟨I213, hI213, hstn, h213⟩
            clear hst
            have hst := hstn
            clear hstn
            replace hM := hM.mono hI213
            replace hl := hl.mono hI213
            replace hle := hle.trans hI213
            refine ⟨FSt w0 _ (Lv2 ++ L), FSt.lift hI213, FSt.of hst (Imm.le.refl _) (by simp), ?_⟩
            have hN : RdS _ u213 (nmL.map strOf) := h213
            refine DRV.q rfl rfl (fun w' hF => RdL.indexAddr Tryd.underlying24 ti9 (by decide) rfl rfl hN ⟨r0z, r0t⟩) ?_
            refine DRV.q rfl rfl (FSt.load1 sc9 rfl (RdS.at hN r0z r0t)) ?_
            rw [en0]
            refine DRV.opE rfl rfl (runs_lit1R Tryd.underlying24 ti9 (by decide) rfl rfl rfl (by simp [Value.oneCell']) hst) ?_
            rintro u214 w ⟨I214, hI214, hstn, h214⟩
            clear hst
            have hst := hstn
            clear hstn
            replace hM := hM.mono hI214
            replace hl := hl.mono hI214
            replace h213 := h213.mono hI214
            replace hN := hN.mono hI214
            replace hle := hle.trans hI214
            refine ⟨FSt w0 _ (Lv2 ++ L), FSt.lift hI214, FSt.of hst (Imm.le.refl _) (by simp), ?_⟩
            have hV : RdS _ u214 (valL.map strOf) := h214
            refine DRV.q rfl rfl (fun w' hF => RdL.indexAddr Tryd.underlying24 ti9 (by decide) rfl rfl hV ⟨r1z, r1t⟩) ?_
            refine DRV.q rfl rfl (FSt.load1 sc9 rfl (RdS.at hV r1z r1t)) ?_
            rw [ev0]
            refine DRV.q rfl rfl (fun w' hF => runs_buildF (cells := [_, _]) bz27 rfl rfl rfl rfl rfl) ?_
            first
              | refine DRV.opE0 rfl (runs_storeW ti27 rfl rfl hst (k := 0) rfl rfl rfl (NoFz.zero _) rfl) ?_
              | refine DRV.opE0 rfl (runs_storeP ti27 rfl rfl hst (k := 0) rfl rfl rfl (NoFz.zero _) rfl) ?_
              | refine DRV.opE0 rfl (runs_storeW ti27 rfl rfl hst (k := 1) rfl rfl rfl (NoFz.zero _) rfl) ?_
              | refine DRV.opE0 rfl (runs_storeP ti27 rfl rfl hst (k := 1) rfl rfl rfl (NoFz.zero _) rfl) ?_
              | refine DRV.opE0 rfl (runs_storeW ti27 rfl rfl hst (k := 2) rfl rfl rfl (NoFz.zero _) rfl) ?_
              | refine DRV.opE0 rfl (runs_storeP ti27 rfl rfl hst (k := 2) rfl rfl rfl (NoFz.zero _) rfl) ?_
            rintro w hstn
            clear hst
            have hst := hstn
            clear hstn
            try simp only [List.set_cons_zero, List.set_cons_succ] at hst
            refine ⟨FSt w0 _ (Lv2 ++ L), FSt.lift (Imm.le.refl _), FSt.of hst (Imm.le.refl _) (by simp), ?_⟩
            refine DRV.done ?_
            exact AQ.meet (_, _) ⟨hle, hM, hl, hst⟩ ⟨rfl, rfl, rfl, rfl, rfl, rfl, trivial⟩
          refine DRV.opE rfl rfl (runs_lit1R Tryd.underlying24 ti9 (by decide) rfl rfl rfl (by simp [Value.oneCell']) hst) ?_
          rintro u216 w ⟨I216, hI216, hstn, h216⟩
          clear hst
          have hst := hstn
          clear hstn
          replace hM := hM.mono hI216
          replace hl := hl.mono hI216
          replace hle := hle.trans hI216
          refine ⟨FSt w0 _ (Lv2 ++ L), FSt.lift hI216, FSt.of hst (Imm.le.refl _) (by simp), ?_⟩
          have hV : RdS _ u216 (valL.map strOf) := h216
          refine DRV.q rfl rfl (fun w' hF => RdL.indexAddr Tryd.underlying24 ti9 (by decide) rfl rfl hV ⟨r1z, r1t⟩) ?_
          refine DRV.q rfl rfl (FSt.load1 sc9 rfl (RdS.at hV r1z r1t)) ?_
          rw [ev0]
          refine DRV.opE rfl rfl (runs_lit1R Tryd.underlying24 ti9 (by decide) rfl rfl rfl (by simp [Value.oneCell']) hst) ?_
          rintro u217 w ⟨I217, hI217, hstn, h217⟩
          clear hst
          have hst := hstn
          clear hstn
          replace hM := hM.mono hI217
          replace hl := hl.mono hI217
          replace h216 := h216.mono hI217
          replace hV := hV.mono hI217
          replace hle := hle.trans hI217
          refine ⟨FSt w0 _ (Lv2 ++ L), FSt.lift hI217, FSt.of hst (Imm.le.refl _) (by simp), ?_⟩
          have hN : RdS _ u217 (nmL.map strOf) := h217
          refine DRV.q rfl rfl (fun w' hF => RdL.indexAddr Tryd.underlying24 ti9 (by decide) rfl rfl hN ⟨r0z, r0t⟩) ?_
          refine DRV.q rfl rfl (FSt.load1 sc9 rfl (RdS.at hN r0z r0t)) ?_
          rw [en0]
          refine DRV.q rfl rfl (fun w' hF => runs_buildF (cells := [_, _]) bz27 rfl rfl rfl rfl rfl) ?_
          first
            | refine DRV.opE0 rfl (runs_storeW ti27 rfl rfl hst (k := 0) rfl rfl rfl (NoFz.zero _) rfl) ?_
            | refine DRV.opE0 rfl (runs_storeP ti27 rfl rfl hst (k := 0) rfl rfl rfl (NoFz.zero _) rfl) ?_
            | refine DRV.opE0 rfl (runs_storeW ti27 rfl rfl hst (k := 1) rfl rfl rfl (NoFz.zero _) rfl) ?_
            | refine DRV.opE0 rfl (runs_storeP ti27 rfl rfl hst (k := 1) rfl rfl rfl (NoFz.zero _) rfl) ?_
            | refine DRV.opE0 rfl (runs_storeW ti27 rfl rfl hst (k := 2) rfl rfl rfl (NoFz.zero _) rfl) ?_
            | refine DRV.opE0 rfl (runs_storeP ti27 rfl rfl hst (k := 2) rfl rfl rfl (NoFz.zero _) rfl) ?_
          rintro w hstn
          clear hst
          have hst := hstn
          clear hstn
          try simp only [List.set_cons_zero, List.set_cons_succ] at hst
          refine ⟨FSt w0 _ (Lv2 ++ L), FSt.lift (Imm.le.refl _), FSt.of hst (Imm.le.refl _) (by simp), ?_⟩
          refine DRV.done ?_
          exact AQ.meet (_, _) ⟨hle, hM, hl, hst⟩ ⟨rfl, rfl, rfl, rfl, rfl, rfl, trivial⟩
        refine DRV.opE rfl rfl (runs_lit1R Tryd.underlying24 ti9 (by decide) rfl rfl rfl (by simp [Value.oneCell']) hst) ?_
        rintro u219 w ⟨I219, hI219, hstn, h219⟩
        clear hst
        have hst := hstn
        clear hstn
        replace hM := hM.mono hI219
        replace hl := hl.mono hI219
        replace hle := hle.trans hI219
        refine ⟨FSt w0 _ (Lv2 ++ L), FSt.lift hI219, FSt.of hst (Imm.le.refl _) (by simp), ?_⟩
        have hV : RdS _ u219 (valL.map strOf) := h219
        refine DRV.fork ?_ ?_
        · refine DRV.opE rfl rfl (runs_lit1R Tryd.underlying24 ti9 (by decide) rfl rfl rfl (by simp [Value.oneCell']) hst) ?_
          rintro u220 w ⟨I220, hI220, hstn, h220⟩
          clear hst
          have hst := hstn
          clear hstn
          replace hM := hM.mono hI220
          replace hl := hl.mono hI220
          replace h219 := h219.mono hI220
          replace hV := hV.mono hI220
          replace hle := hle.trans hI220
          refine ⟨FSt w0 _ (Lv2 ++ L), FSt.lift hI220, FSt.of hst (Imm.le.refl _) (by simp), ?_⟩
          have hN : RdS _ u220 (nmL.map strOf) := h220
          refine DRV.call rfl rfl call8 rfl rfl (within_spec hst (v := x) (n := 4) hxok (by unfold i64ok; decide)) ?_
          rintro e w ⟨rfl, hstn⟩
          clear hst
          have hst := hstn
          clear hstn
          rw [hj0]
          refine ⟨_, rfl, FSt w0 _ (Lv2 ++ L), FSt.lift (Imm.le.refl _), FSt.of hst (Imm.le.refl _) (by simp), ?_⟩
          refine DRV.q rfl rfl (fun w' hF => RdL.indexAddr Tryd.underlying24 ti9 (by decide) rfl rfl hN ⟨r0z, r0t⟩) ?_
          refine DRV.q rfl rfl (FSt.load1 sc9 rfl (RdS.at hN r0z r0t)) ?_
          rw [en0]
          refine DRV.call rfl rfl call8 rfl rfl (within_spec hst (v := IntKind.i64.wrap (x.tdiv 4)) (n := 4) (wrap_ok _) (by unfold i64ok; decide)) ?_
          rintro e w ⟨rfl, hstn⟩
          clear hst
          have hst := hstn
          clear hstn
          rw [hj1]
          refine ⟨_, rfl, FSt w0 _ (Lv2 ++ L), FSt.lift (Imm.le.refl _), FSt.of hst (Imm.le.refl _) (by simp), ?_⟩
          refine DRV.q rfl rfl (fun w' hF => RdL.indexAddr Tryd.underlying24 ti9 (by decide) rfl rfl hV ⟨r1z, r1t⟩) ?_
          refine DRV.q rfl rfl (FSt.load1 sc9 rfl (RdS.at hV r1z r1t)) ?_
          rw [ev0]
          refine DRV.q rfl rfl (fun w' hF => runs_buildF (cells := [_, _]) bz27 rfl rfl rfl rfl rfl) ?_
          first
            | refine DRV.opE0 rfl (runs_storeW ti27 rfl rfl hst (k := 0) rfl rfl rfl (NoFz.zero _) rfl) ?_
            | refine DRV.opE0 rfl (runs_storeP ti27 rfl rfl hst (k := 0) rfl rfl rfl (NoFz.zero _) rfl) ?_
            | refine DRV.opE0 rfl (runs_storeW ti27 rfl rfl hst (k := 1) rfl rfl rfl (NoFz.zero _) rfl) ?_
            | refine DRV.opE0 rfl (runs_storeP ti27 rfl rfl hst (k := 1) rfl rfl rfl (NoFz.zero _) rfl) ?_
            | refine DRV.opE0 rfl (runs_storeW ti27 rfl rfl hst (k := 2) rfl rfl rfl (NoFz.zero _) rfl) ?_
            | refine DRV.opE0 rfl (runs_storeP ti27 rfl rfl hst (k := 2) rfl rfl rfl (NoFz.zero _) rfl) ?_
          rintro w hstn
          clear hst
          have hst := hstn
          clear hstn
          try simp only [List.set_cons_zero, List.set_cons_succ] at hst
          refine ⟨FSt w0 _ (Lv2 ++ L), FSt.lift (Imm.le.refl _), FSt.of hst (Imm.le.refl _) (by simp), ?_⟩
          refine DRV.done ?_
          exact AQ.meet (_, _) ⟨hle, hM, hl, hst⟩ ⟨rfl, rfl, rfl, rfl, rfl, rfl, trivial⟩
        refine DRV.call rfl rfl call8 rfl rfl (within_spec hst (v := x) (n := 4) hxok (by unfold i64ok; decide)) ?_
        rintro e w ⟨rfl, hstn⟩
        clear hst
        have hst := hstn
        clear hstn
        rw [hj0]
        refine ⟨_, rfl, FSt w0 _ (Lv2 ++ L), FSt.lift (Imm.le.refl _), FSt.of hst (Imm.le.refl _) (by simp), ?_⟩
        refine DRV.fork ?_ ?_
        · refine DRV.opE rfl rfl (runs_lit1R Tryd.underlying24 ti9 (by decide) rfl rfl rfl (by simp [Value.oneCell']) hst) ?_
          rintro u225 w ⟨I225, hI225, hstn, h225⟩
          clear hst
          have hst := hstn
          clear hstn
          replace hM := hM.mono hI225
          replace hl := hl.mono hI225
          replace h219 := h219.mono hI225
          replace hV := hV.mono hI225
          replace hle := hle.trans hI225
          refine ⟨FSt w0 _ (Lv2 ++ L), FSt.lift hI225, FSt.of hst (Imm.le.refl _) (by simp), ?_⟩
          have hN : RdS _ u225 (nmL.map strOf) := h225
          refine DRV.q rfl rfl (fun w' hF => RdL.indexAddr Tryd.underlying24 ti9 (by decide) rfl rfl hN ⟨r0z, r0t⟩) ?_
          refine DRV.q rfl rfl (FSt.load1 sc9 rfl (RdS.at hN r0z r0t)) ?_
          rw [en0]
          refine DRV.call rfl rfl call8 rfl rfl (within_spec hst (v := IntKind.i64.wrap (x.tdiv 4)) (n := 4) (wrap_ok _) (by unfold i64ok; decide)) ?_
          rintro e w ⟨rfl, hstn⟩
          clear hst
          have hst := hstn
          clear hstn
          rw [hj1]
          refine ⟨_, rfl, FSt w0 _ (Lv2 ++ L), FSt.lift (Imm.le.refl _), FSt.of hst (Imm.le.refl _) (by simp), ?_⟩
          refine DRV.q rfl rfl (fun w' hF => RdL.indexAddr Tryd.underlying24 ti9 (by decide) rfl rfl hV ⟨r1z, r1t⟩) ?_
          refine DRV.q rfl rfl (FSt.load1 sc9 rfl (RdS.at hV r1z r1t)) ?_
          rw [ev0]
          refine DRV.q rfl rfl (fun w' hF => runs_buildF (cells := [_, _]) bz27 rfl rfl rfl rfl rfl) ?_
          first
            | refine DRV.opE0 rfl (runs_storeW ti27 rfl rfl hst (k := 0) rfl rfl rfl (NoFz.zero _) rfl) ?_
            | refine DRV.opE0 rfl (runs_storeP ti27 rfl rfl hst (k := 0) rfl rfl rfl (NoFz.zero _) rfl) ?_
            | refine DRV.opE0 rfl (runs_storeW ti27 rfl rfl hst (k := 1) rfl rfl rfl (NoFz.zero _) rfl) ?_
            | refine DRV.opE0 rfl (runs_storeP ti27 rfl rfl hst (k := 1) rfl rfl rfl (NoFz.zero _) rfl) ?_
            | refine DRV.opE0 rfl (runs_storeW ti27 rfl rfl hst (k := 2) rfl rfl rfl (NoFz.zero _) rfl) ?_
            | refine DRV.opE0 rfl (runs_storeP ti27 rfl rfl hst (k := 2) rfl rfl rfl (NoFz.zero _) rfl) ?_
          rintro w hstn
          clear hst
          have hst := hstn
          clear hstn
          try simp only [List.set_cons_zero, List.set_cons_succ] at hst
          refine ⟨FSt w0 _ (Lv2 ++ L), FSt.lift (Imm.le.refl _), FSt.of hst (Imm.le.refl _) (by simp), ?_⟩
          refine DRV.done ?_
          exact AQ.meet (_, _) ⟨hle, hM, hl, hst⟩ ⟨rfl, rfl, rfl, rfl, rfl, rfl, trivial⟩
        refine DRV.call rfl rfl call8 rfl rfl (within_spec hst (v := IntKind.i64.wrap (x.tdiv 4)) (n := 4) (wrap_ok _) (by unfold i64ok; decide)) ?_
        rintro e w ⟨rfl, hstn⟩
        clear hst
        have hst := hstn
        clear hstn
        rw [hj1]
        refine ⟨_, rfl, FSt w0 _ (Lv2 ++ L), FSt.lift (Imm.le.refl _), FSt.of hst (Imm.le.refl _) (by simp), ?_⟩
        refine DRV.q rfl rfl (fun w' hF => RdL.indexAddr Tryd.underlying24 ti9 (by decide) rfl rfl hV ⟨r1z, r1t⟩) ?_
        refine DRV.q rfl rfl (FSt.load1 sc9 rfl (RdS.at hV r1z r1t)) ?_
        rw [ev0]
        refine DRV.opE rfl rfl (runs_lit1R Tryd.underlying24 ti9 (by decide) rfl rfl rfl (by simp [Value.oneCell']) hst) ?_
        rintro u229 w ⟨I229, hI229, hstn, h229⟩
        clear hst
        have hst := hstn
        clear hstn
        replace hM := hM.mono hI229
        replace hl := hl.mono hI229
        replace h219 := h219.mono hI229
        replace hV := hV.mono hI229
        replace hle := hle.trans hI229
        refine ⟨FSt w0 _ (Lv2 ++ L), FSt.lift hI229, FSt.of hst (Imm.le.refl _) (by simp), ?_⟩
        have hN : RdS _ u229 (nmL.map strOf) := h229
        refine DRV.q rfl rfl (fun w' hF => RdL.indexAddr Tryd.underlying24 ti9 (by decide) rfl rfl hN ⟨r0z, r0t⟩) ?_
        refine DRV.q rfl rfl (FSt.load1 sc9 rfl (RdS.at hN r0z r0t)) ?_
        rw [en0]
        refine DRV.q rfl rfl (fun w' hF => runs_buildF (cells := [_, _]) bz27 rfl rfl rfl rfl rfl) ?_
        first
          | refine DRV.opE0 rfl (runs_storeW ti27 rfl rfl hst (k := 0) rfl rfl rfl (NoFz.zero _) rfl) ?_
          | refine DRV.opE0 rfl (runs_storeP ti27 rfl rfl hst (k := 0) rfl rfl rfl (NoFz.zero _) rfl) ?_
          | refine DRV.opE0 rfl (runs_storeW ti27 rfl rfl hst (k := 1) rfl rfl rfl (NoFz.zero _) rfl) ?_
          | refine DRV.opE0 rfl (runs_storeP ti27 rfl rfl hst (k := 1) rfl rfl rfl (NoFz.zero _) rfl) ?_
          | refine DRV.opE0 rfl (runs_storeW ti27 rfl rfl hst (k := 2) rfl rfl rfl (NoFz.zero _) rfl) ?_
          | refine DRV.opE0 rfl (runs_storeP ti27 rfl rfl hst (k := 2) rfl rfl rfl (NoFz.zero _) rfl) ?_
        rintro w hstn
        clear hst
        have hst := hstn
        clear hstn
        try simp only [List.set_cons_zero, List.set_cons_succ] at hst
        refine ⟨FSt w0 _ (Lv2 ++ L), FSt.lift (Imm.le.refl _), FSt.of hst (Imm.le.refl _) (by simp), ?_⟩
        refine DRV.done ?_
        exact AQ.meet (_, _) ⟨hle, hM, hl, hst⟩ ⟨rfl, rfl, rfl, rfl, rfl, rfl, trivial⟩
      · clear hle hM hl
        rintro ⟨I6, bq⟩ w ⟨hle, hM, hl, hstn⟩
        dsimp only at hle hM hl hstn ⊢
        clear hst
        have hst := hstn
        clear hstn
        refine AQ.next ?_
        refine CW.seq ?_
        -- region 7
        refine CW.cut Imm (fun y w => I.le y ∧ MaxK y ∧ RdI y vl ls ∧ St w0 w y ((bq, Obj.cells (Value.agg #[.string (strOf n0), .string (strOf v0)]).cells 27) :: (Lv2 ++ L))) (fun y => [(0, vl), (1, .string body), (5, .string (strOf (topT rs) ++ (strOf n0 ++ ⟨#[58]⟩ ++ strOf p0 ++ strOf v0 ++ strOf q0 ++ ⟨#[13, 10]⟩))), (6, v2), (7, .int .i64 (k : Nat)), (8, .pointer (some ⟨bq, 0, none⟩))]) ?_ ?_
        · -- region 7
          refine CW.drawV hst (.q 0 (.q 1 (.q 2 (.q 3 (.q 5 (.q 6 (.q 7 (.q 8 (.q 9 (.q 14 (.q 15 (.q 18 (.q 19 (.q 20 (.q 21 (.q 22 (.fork (.l 4 (.fork (.l 10 (.q 11 (.q 12 (.q 13 (.q 16 (.fork (.l 17 (.l 23 (.q 24 (.q 25 (.q 26 (.q 27 (.q 28 (.q 29 .nil)))))))) (.l 23 (.l 17 (.q 24 (.q 25 (.q 26 (.q 27 (.q 28 (.q 29 .nil)))))))))))))) (.l 17 (.l 10 (.q 11 (.q 12 (.q 13 (.q 16 (.l 23 (.q 24 (.q 25 (.q 26 (.q 27 (.q 28 (.q 29 .nil))))))))))))))) (.fork (.l 10 (.fork (.l 4 (.q 11 (.q 12 (.q 13 (.q 16 (.fork (.l 17 (.l 23 (.q 24 (.q 25 (.q 26 (.q 27 (.q 28 (.q 29 .nil)))))))) (.l 23 (.l 17 (.q 24 (.q 25 (.q 26 (.q 27 (.q 28 (.q 29 .nil)))))))))))))) (.fork (.l 17 (.fork (.l 4 (.q 11 (.q 12 (.q 13 (.q 16 (.l 23 (.q 24 (.q 25 (.q 26 (.q 27 (.q 28 (.q 29 .nil)))))))))))) (.l 23 (.q 24 (.q 25 (.l 4 (.q 11 (.q 12 (.q 13 (.q 16 (.q 26 (.q 27 (.q 28 (.q 29 .nil)))))))))))))) (.l 23 (.fork (.l 4 (.q 11 (.q 12 (.q 13 (.q 16 (.l 17 (.q 24 (.q 25 (.q 26 (.q 27 (.q 28 (.q 29 .nil)))))))))))) (.l 17 (.q 24 (.q 25 (.l 4 (.q 11 (.q 12 (.q 13 (.q 16 (.q 26 (.q 27 (.q 28 (.q 29 .nil))))))))))))))))) (.l 17 (.fork (.l 4 (.l 10 (.q 11 (.q 12 (.q 13 (.q 16 (.l 23 (.q 24 (.q 25 (.q 26 (.q 27 (.q 28 (.q 29 .nil))))))))))))) (.l 10 (.fork (.l 4 (.q 11 (.q 12 (.q 13 (.q 16 (.l 23 (.q 24 (.q 25 (.q 26 (.q 27 (.q 28 (.q 29 .nil)))))))))))) (.l 23 (.q 24 (.q 25 (.l 4 (.q 11 (.q 12 (.q 13 (.q 16 (.q 26 (.q 27 (.q 28 (.q 29 .nil)))))))))))))))))))))))))))))))))) follows (by kernel_rfl) (fun w hst => ?_)
          refine DRV.q rfl rfl (fun w' hF => runs_move rfl) ?_
          first
            | refine DRV.q rfl rfl (fun w' hF => runs_fieldAddr0 rfl Tryd.underlying27 rfl ti9 (by decide)) ?_
            | refine DRV.q rfl rfl (fun w' hF => runs_fieldAddr rfl Tryd.underlying27 rfl ti9 (by decide)) ?_
          refine DRV.q rfl rfl (FSt.load1_own (v := .string (strOf n0)) sc9 rfl (k := 0) rfl rfl) ?_
          refine DRV.q rfl rfl (fun w' hF => runs_addS rfl rfl (by simp only [ByteArray.size_append, strOfZ, show (ByteArray.mk #[58]).size = 1 from rfl, show (ByteArray.mk #[13, 10]).size = 2 from rfl]; omega)) ?_
          refine DRV.q rfl rfl (fun w' hF => runs_move rfl) ?_
          refine DRV.q rfl rfl (fun w' hF => runs_move rfl) ?_
          refine DRV.q rfl rfl (fun w' hF => RdL.indexAddr Tryd.underlying22 ti3 (by decide) rfl rfl hl ⟨hk0, hkl⟩) ?_
          refine DRV.q rfl rfl (FSt.load1 sc3 rfl (RdI.at hl hk0 hkl)) ?_
          rw [hx]
          refine DRV.q rfl rfl (fun w' hF => runs_quo rfl rfl (by decide)) ?_
          first
            | refine DRV.q rfl rfl (fun w' hF => runs_fieldAddr0 rfl Tryd.underlying27 rfl ti9 (by decide)) ?_
            | refine DRV.q rfl rfl (fun w' hF => runs_fieldAddr rfl Tryd.underlying27 rfl ti9 (by decide)) ?_
          refine DRV.q rfl rfl (FSt.load1_own (v := .string (strOf v0)) sc9 rfl (k := 0) rfl rfl) ?_
          refine DRV.q rfl rfl (fun w' hF => runs_move rfl) ?_
          refine DRV.q rfl rfl (fun w' hF => runs_move rfl) ?_
          refine DRV.q rfl rfl (fun w' hF => RdL.indexAddr Tryd.underlying22 ti3 (by decide) rfl rfl hl ⟨hk0, hkl⟩) ?_
          refine DRV.q rfl rfl (FSt.load1 sc3 rfl (RdI.at hl hk0 hkl)) ?_
          rw [hx]
          refine DRV.q rfl rfl (fun w' hF => runs_quo rfl rfl (by decide)) ?_
          refine DRV.fork ?_ ?_
          · refine DRV.opE rfl rfl (runs_lit1R Tryd.underlying24 ti9 (by decide) rfl rfl rfl (by simp [Value.oneCell']) hst) ?_
            rintro u231 w ⟨I231, hI231, hstn, h231⟩
            clear hst
            have hst := hstn
            clear hstn
            replace hM := hM.mono hI231
            replace hl := hl.mono hI231
            replace hle := hle.trans hI231
            refine ⟨FSt w0 _ ((bq, Obj.cells (Value.agg #[.string (strOf n0), .string (strOf v0)]).cells 27) :: (Lv2 ++ L)), FSt.lift hI231, FSt.of hst (Imm.le.refl _) (by simp), ?_⟩
            have hP : RdS _ u231 (prL.map strOf) := h231
            refine DRV.fork ?_ ?_
            · refine DRV.call rfl rfl call8 rfl rfl (within_spec hst (v := IntKind.i64.wrap (x.tdiv 16)) (n := 3) (wrap_ok _) (by unfold i64ok; decide)) ?_
              rintro e w ⟨rfl, hstn⟩
              clear hst
              have hst := hstn
              clear hstn
              rw [hj2]
              refine ⟨_, rfl, FSt w0 _ ((bq, Obj.cells (Value.agg #[.string (strOf n0), .string (strOf v0)]).cells 27) :: (Lv2 ++ L)), FSt.lift (Imm.le.refl _), FSt.of hst (Imm.le.refl _) (by simp), ?_⟩
              refine DRV.q rfl rfl (fun w' hF => RdL.indexAddr Tryd.underlying24 ti9 (by decide) rfl rfl hP ⟨r2z, r2t⟩) ?_
              refine DRV.q rfl rfl (FSt.load1 sc9 rfl (RdS.at hP r2z r2t)) ?_
              rw [ep0]
              refine DRV.q rfl rfl (fun w' hF => runs_addS rfl rfl (by simp only [ByteArray.size_append, strOfZ, show (ByteArray.mk #[58]).size = 1 from rfl, show (ByteArray.mk #[13, 10]).size = 2 from rfl]; omega)) ?_
              refine DRV.q rfl rfl (fun w' hF => runs_addS rfl rfl (by simp only [ByteArray.size_append, strOfZ, show (ByteArray.mk #[58]).size = 1 from rfl, show (ByteArray.mk #[13, 10]).size = 2 from rfl]; omega)) ?_
              refine DRV.fork ?_ ?_
              · refine DRV.opE rfl rfl (runs_lit1R Tryd.underlying24 ti9 (by decide) rfl rfl rfl (by simp [Value.oneCell']) hst) ?_
                rintro u233 w ⟨I233, hI233, hstn, h233⟩
                clear hst
                have hst := hstn
                clear hstn
                replace hM := hM.mono hI233
                replace hl := hl.mono hI233
                replace h231 := h231.mono hI233
                replace hP := hP.mono hI233
                replace hle := hle.trans hI233
                refine ⟨FSt w0 _ ((bq, Obj.cells (Value.agg #[.string (strOf n0), .string (strOf v0)]).cells 27) :: (Lv2 ++ L)), FSt.lift hI233, FSt.of hst (Imm.le.refl _) (by simp), ?_⟩
                have hQ : RdS _ u233 (poL.map strOf) := h233
                refine DRV.call rfl rfl call8 rfl rfl (within_spec hst (v := IntKind.i64.wrap (x.tdiv 48)) (n := 2) (wrap_ok _) (by unfold i64ok; decide)) ?_
                rintro e w ⟨rfl, hstn⟩
                clear hst
                have hst := hstn
                clear hstn
                rw [hj3]
                refine ⟨_, rfl, FSt w0 _ ((bq, Obj.cells (Value.agg #[.string (strOf n0), .string (strOf v0)]).cells 27) :: (Lv2 ++ L)), FSt.lift (Imm.le.refl _), FSt.of hst (Imm.le.refl _) (by simp), ?_⟩
                refine DRV.q rfl rfl (fun w' hF => RdL.indexAddr Tryd.underlying24 ti9 (by decide) rfl rfl hQ ⟨r3z, r3t⟩) ?_
                refine DRV.q rfl rfl (FSt.load1 sc9 rfl (RdS.at hQ r3z r3t)) ?_
                rw [eq0]
                refine DRV.q rfl rfl (fun w' hF => runs_addS rfl rfl (by simp only [ByteArray.size_append, strOfZ, show (ByteArray.mk #[58]).size = 1 from rfl, show (ByteArray.mk #[13, 10]).size = 2 from rfl]; omega)) ?_
                refine DRV.q rfl rfl (fun w' hF => runs_addS rfl rfl (by simp only [ByteArray.size_append, strOfZ, show (ByteArray.mk #[58]).size = 1 from rfl, show (ByteArray.mk #[13, 10]).size = 2 from rfl]; omega)) ?_
                refine DRV.q rfl rfl (fun w' hF => runs_addS rfl rfl (by simp only [ByteArray.size_append, strOfZ, show (ByteArray.mk #[58]).size = 1 from rfl, show (ByteArray.mk #[13, 10]).size = 2 from rfl]; omega)) ?_
                refine DRV.q rfl rfl (fun w' hF => runs_assign rfl) ?_
                refine DRV.done ?_
                exact AQ.meet _ ⟨hle, hM, hl, hst⟩ ⟨rfl, rfl, rfl, rfl, rfl, rfl, trivial⟩
              refine DRV.call rfl rfl call8 rfl rfl (within_spec hst (v := IntKind.i64.wrap (x.tdiv 48)) (n := 2) (wrap_ok _) (by unfold i64ok; decide)) ?_
              rintro e w ⟨rfl, hstn⟩
              clear hst
              have hst := hstn
              clear hstn
              rw [hj3]
              refine ⟨_, rfl, FSt w0 _ ((bq, Obj.cells (Value.agg #[.string (strOf n0), .string (strOf v0)]).cells 27) :: (Lv2 ++ L)), FSt.lift (Imm.le.refl _), FSt.of hst (Imm.le.refl _) (by simp), ?_⟩
              refine DRV.opE rfl rfl (runs_lit1R Tryd.underlying24 ti9 (by decide) rfl rfl rfl (by simp [Value.oneCell']) hst) ?_
              rintro u236 w ⟨I236, hI236, hstn, h236⟩
              clear hst
              have hst := hstn
              clear hstn
              replace hM := hM.mono hI236
              replace hl := hl.mono hI236
              replace h231 := h231.mono hI236
              replace hP := hP.mono hI236
              replace hle := hle.trans hI236
              refine ⟨FSt w0 _ ((bq, Obj.cells (Value.agg #[.string (strOf n0), .string (strOf v0)]).cells 27) :: (Lv2 ++ L)), FSt.lift hI236, FSt.of hst (Imm.le.refl _) (by simp), ?_⟩
              have hQ : RdS _ u236 (poL.map strOf) := h236
              refine DRV.q rfl rfl (fun w' hF => RdL.indexAddr Tryd.underlying24 ti9 (by decide) rfl rfl hQ ⟨r3z, r3t⟩) ?_
              refine DRV.q rfl rfl (FSt.load1 sc9 rfl (RdS.at hQ r3z r3t)) ?_
              rw [eq0]
              refine DRV.q rfl rfl (fun w' hF => runs_addS rfl rfl (by simp only [ByteArray.size_append, strOfZ, show (ByteArray.mk #[58]).size = 1 from rfl, show (ByteArray.mk #[13, 10]).size = 2 from rfl]; omega)) ?_
              refine DRV.q rfl rfl (fun w' hF => runs_addS rfl rfl (by simp only [ByteArray.size_append, strOfZ, show (ByteArray.mk #[58]).size = 1 from rfl, show (ByteArray.mk #[13, 10]).size = 2 from rfl]; omega)) ?_
              refine DRV.q rfl rfl (fun w' hF => runs_addS rfl rfl (by simp only [ByteArray.size_append, strOfZ, show (ByteArray.mk #[58]).size = 1 from rfl, show (ByteArray.mk #[13, 10]).size = 2 from rfl]; omega)) ?_
              refine DRV.q rfl rfl (fun w' hF => runs_assign rfl) ?_
              refine DRV.done ?_
              exact AQ.meet _ ⟨hle, hM, hl, hst⟩ ⟨rfl, rfl, rfl, rfl, rfl, rfl, trivial⟩
            refine DRV.opE rfl rfl (runs_lit1R Tryd.underlying24 ti9 (by decide) rfl rfl rfl (by simp [Value.oneCell']) hst) ?_
            rintro u237 w ⟨I237, hI237, hstn, h237⟩
            clear hst
            have hst := hstn
            clear hstn
            replace hM := hM.mono hI237
            replace hl := hl.mono hI237
            replace h231 := h231.mono hI237
            replace hP := hP.mono hI237
            replace hle := hle.trans hI237
            refine ⟨FSt w0 _ ((bq, Obj.cells (Value.agg #[.string (strOf n0), .string (strOf v0)]).cells 27) :: (Lv2 ++ L)), FSt.lift hI237, FSt.of hst (Imm.le.refl _) (by simp), ?_⟩
            have hQ : RdS _ u237 (poL.map strOf) := h237
            refine DRV.call rfl rfl call8 rfl rfl (within_spec hst (v := IntKind.i64.wrap (x.tdiv 16)) (n := 3) (wrap_ok _) (by unfold i64ok; decide)) ?_
            rintro e w ⟨rfl, hstn⟩
            clear hst
            have hst := hstn
            clear hstn
            rw [hj2]
            refine ⟨_, rfl, FSt w0 _ ((bq, Obj.cells (Value.agg #[.string (strOf n0), .string (strOf v0)]).cells 27) :: (Lv2 ++ L)), FSt.lift (Imm.le.refl _), FSt.of hst (Imm.le.refl _) (by simp), ?_⟩
            refine DRV.q rfl rfl (fun w' hF => RdL.indexAddr Tryd.underlying24 ti9 (by decide) rfl rfl hP ⟨r2z, r2t⟩) ?_
            refine DRV.q rfl rfl (FSt.load1 sc9 rfl (RdS.at hP r2z r2t)) ?_
            rw [ep0]
            refine DRV.q rfl rfl (fun w' hF => runs_addS rfl rfl (by simp only [ByteArray.size_append, strOfZ, show (ByteArray.mk #[58]).size = 1 from rfl, show (ByteArray.mk #[13, 10]).size = 2 from rfl]; omega)) ?_
            refine DRV.q rfl rfl (fun w' hF => runs_addS rfl rfl (by simp only [ByteArray.size_append, strOfZ, show (ByteArray.mk #[58]).size = 1 from rfl, show (ByteArray.mk #[13, 10]).size = 2 from rfl]; omega)) ?_
            refine DRV.call rfl rfl call8 rfl rfl (within_spec hst (v := IntKind.i64.wrap (x.tdiv 48)) (n := 2) (wrap_ok _) (by unfold i64ok; decide)) ?_
            rintro e w ⟨rfl, hstn⟩
            clear hst
            have hst := hstn
            clear hstn
            rw [hj3]
            refine ⟨_, rfl, FSt w0 _ ((bq, Obj.cells (Value.agg #[.string (strOf n0), .string (strOf v0)]).cells 27) :: (Lv2 ++ L)), FSt.lift (Imm.le.refl _), FSt.of hst (Imm.le.refl _) (by simp), ?_⟩
            refine DRV.q rfl rfl (fun w' hF => RdL.indexAddr Tryd.underlying24 ti9 (by decide) rfl rfl hQ ⟨r3z, r3t⟩) ?_
            refine DRV.q rfl rfl (FSt.load1 sc9 rfl (RdS.at hQ r3z r3t)) ?_
            rw [eq0]
            refine DRV.q rfl rfl (fun w' hF => runs_addS rfl rfl (by simp only [ByteArray.size_append, strOfZ, show (ByteArray.mk #[58]).size = 1 from rfl, show (ByteArray.mk #[13, 10]).size = 2 from rfl]; omega)) ?_
            refine DRV.q rfl rfl (fun w' hF => runs_addS rfl rfl (by simp only [ByteArray.size_append, strOfZ, show (ByteArray.mk #[58]).size = 1 from rfl, show (ByteArray.mk #[13, 10]).size = 2 from rfl]; omega)) ?_
            refine DRV.q rfl rfl (fun w' hF => runs_addS rfl rfl (by simp only [ByteArray.size_append, strOfZ, show (ByteArray.mk #[58]).size = 1 from rfl, show (ByteArray.mk #[13, 10]).size = 2 from rfl]; omega)) ?_
            refine DRV.q rfl rfl (fun w' hF => runs_assign rfl) ?_
            refine DRV.done ?_
            exact AQ.meet _ ⟨hle, hM, hl, hst⟩ ⟨rfl, rfl, rfl, rfl, rfl, rfl, trivial⟩
          refine DRV.fork ?_ ?_
          · refine DRV.call rfl rfl call8 rfl rfl (within_spec hst (v := IntKind.i64.wrap (x.tdiv 16)) (n := 3) (wrap_ok _) (by unfold i64ok; decide)) ?_
            rintro e w ⟨rfl, hstn⟩
            clear hst
            have hst := hstn
            clear hstn
            rw [hj2]
            refine ⟨_, rfl, FSt w0 _ ((bq, Obj.cells (Value.agg #[.string (strOf n0), .string (strOf v0)]).cells 27) :: (Lv2 ++ L)), FSt.lift (Imm.le.refl _), FSt.of hst (Imm.le.refl _) (by simp), ?_⟩
            refine DRV.fork ?_ ?_
            · refine DRV.opE rfl rfl (runs_lit1R Tryd.underlying24 ti9 (by decide) rfl rfl rfl (by simp [Value.oneCell']) hst) ?_
              rintro u241 w ⟨I241, hI241, hstn, h241⟩
              clear hst
              have hst := hstn
              clear hstn
              replace hM := hM.mono hI241
              replace hl := hl.mono hI241
              replace hle := hle.trans hI241
              refine ⟨FSt w0 _ ((bq, Obj.cells (Value.agg #[.string (strOf n0), .string (strOf v0)]).cells 27) :: (Lv2 ++ L)), FSt.lift hI241, FSt.of hst (Imm.le.refl _) (by simp), ?_⟩
              have hP : RdS _ u241 (prL.map strOf) := h241
              refine DRV.q rfl rfl (fun w' hF => RdL.indexAddr Tryd.underlying24 ti9 (by decide) rfl rfl hP ⟨r2z, r2t⟩) ?_
              refine DRV.q rfl rfl (FSt.load1 sc9 rfl (RdS.at hP r2z r2t)) ?_
              rw [ep0]
              refine DRV.q rfl rfl (fun w' hF => runs_addS rfl rfl (by simp only [ByteArray.size_append, strOfZ, show (ByteArray.mk #[58]).size = 1 from rfl, show (ByteArray.mk #[13, 10]).size = 2 from rfl]; omega)) ?_
              refine DRV.q rfl rfl (fun w' hF => runs_addS rfl rfl (by simp only [ByteArray.size_append, strOfZ, show (ByteArray.mk #[58]).size = 1 from rfl, show (ByteArray.mk #[13, 10]).size = 2 from rfl]; omega)) ?_
              refine DRV.fork ?_ ?_
              · refine DRV.opE rfl rfl (runs_lit1R Tryd.underlying24 ti9 (by decide) rfl rfl rfl (by simp [Value.oneCell']) hst) ?_
                rintro u242 w ⟨I242, hI242, hstn, h242⟩
                clear hst
                have hst := hstn
                clear hstn
                replace hM := hM.mono hI242
                replace hl := hl.mono hI242
                replace h241 := h241.mono hI242
                replace hP := hP.mono hI242
                replace hle := hle.trans hI242
                refine ⟨FSt w0 _ ((bq, Obj.cells (Value.agg #[.string (strOf n0), .string (strOf v0)]).cells 27) :: (Lv2 ++ L)), FSt.lift hI242, FSt.of hst (Imm.le.refl _) (by simp), ?_⟩
                have hQ : RdS _ u242 (poL.map strOf) := h242
                refine DRV.call rfl rfl call8 rfl rfl (within_spec hst (v := IntKind.i64.wrap (x.tdiv 48)) (n := 2) (wrap_ok _) (by unfold i64ok; decide)) ?_
                rintro e w ⟨rfl, hstn⟩
                clear hst
                have hst := hstn
                clear hstn
                rw [hj3]
                refine ⟨_, rfl, FSt w0 _ ((bq, Obj.cells (Value.agg #[.string (strOf n0), .string (strOf v0)]).cells 27) :: (Lv2 ++ L)), FSt.lift (Imm.le.refl _), FSt.of hst (Imm.le.refl _) (by simp), ?_⟩
                refine DRV.q rfl rfl (fun w' hF => RdL.indexAddr Tryd.underlying24 ti9 (by decide) rfl rfl hQ ⟨r3z, r3t⟩) ?_
                refine DRV.q rfl rfl (FSt.load1 sc9 rfl (RdS.at hQ r3z r3t)) ?_
                rw [eq0]
                refine DRV.q rfl rfl (fun w' hF => runs_addS rfl rfl (by simp only [ByteArray.size_append, strOfZ, show (ByteArray.mk #[58]).size = 1 from rfl, show (ByteArray.mk #[13, 10]).size = 2 from rfl]; omega)) ?_
                refine DRV.q rfl rfl (fun w' hF => runs_addS rfl rfl (by simp only [ByteArray.size_append, strOfZ, show (ByteArray.mk #[58]).size = 1 from rfl, show (ByteArray.mk #[13, 10]).size = 2 from rfl]; omega)) ?_
                refine DRV.q rfl rfl (fun w' hF => runs_addS rfl rfl (by simp only [ByteArray.size_append, strOfZ, show (ByteArray.mk #[58]).size = 1 from rfl, show (ByteArray.mk #[13, 10]).size = 2 from rfl]; omega)) ?_
                refine DRV.q rfl rfl (fun w' hF => runs_assign rfl) ?_
                refine DRV.done ?_
                exact AQ.meet _ ⟨hle, hM, hl, hst⟩ ⟨rfl, rfl, rfl, rfl, rfl, rfl, trivial⟩
              refine DRV.call rfl rfl call8 rfl rfl (within_spec hst (v := IntKind.i64.wrap (x.tdiv 48)) (n := 2) (wrap_ok _) (by unfold i64ok; decide)) ?_
              rintro e w ⟨rfl, hstn⟩
              clear hst
              have hst := hstn
              clear hstn
              rw [hj3]
              refine ⟨_, rfl, FSt w0 _ ((bq, Obj.cells (Value.agg #[.string (strOf n0), .string (strOf v0)]).cells 27) :: (Lv2 ++ L)), FSt.lift (Imm.le.refl _), FSt.of hst (Imm.le.refl _) (by simp), ?_⟩
              refine DRV.opE rfl rfl (runs_lit1R Tryd.underlying24 ti9 (by decide) rfl rfl rfl (by simp [Value.oneCell']) hst) ?_
              rintro u245 w ⟨I245, hI245, hstn, h245⟩
              clear hst
              have hst := hstn
              clear hstn
              replace hM := hM.mono hI245
              replace hl := hl.mono hI245
              replace h241 := h241.mono hI245
              replace hP := hP.mono hI245
              replace hle := hle.trans hI245
              refine ⟨FSt w0 _ ((bq, Obj.cells (Value.agg #[.string (strOf n0), .string (strOf v0)]).cells 27) :: (Lv2 ++ L)), FSt.lift hI245, FSt.of hst (Imm.le.refl _) (by simp), ?_⟩
              have hQ : RdS _ u245 (poL.map strOf) := h245
              refine DRV.q rfl rfl (fun w' hF => RdL.indexAddr Tryd.underlying24 ti9 (by decide) rfl rfl hQ ⟨r3z, r3t⟩) ?_
              refine DRV.q rfl rfl (FSt.load1 sc9 rfl (RdS.at hQ r3z r3t)) ?_
              rw [eq0]
              refine DRV.q rfl rfl (fun w' hF => runs_addS rfl rfl (by simp only [ByteArray.size_append, strOfZ, show (ByteArray.mk #[58]).size = 1 from rfl, show (ByteArray.mk #[13, 10]).size = 2 from rfl]; omega)) ?_
              refine DRV.q rfl rfl (fun w' hF => runs_addS rfl rfl (by simp only [ByteArray.size_append, strOfZ, show (ByteArray.mk #[58]).size = 1 from rfl, show (ByteArray.mk #[13, 10]).size = 2 from rfl]; omega)) ?_
              refine DRV.q rfl rfl (fun w' hF => runs_addS rfl rfl (by simp only [ByteArray.size_append, strOfZ, show (ByteArray.mk #[58]).size = 1 from rfl, show (ByteArray.mk #[13, 10]).size = 2 from rfl]; omega)) ?_
              refine DRV.q rfl rfl (fun w' hF => runs_assign rfl) ?_
              refine DRV.done ?_
              exact AQ.meet _ ⟨hle, hM, hl, hst⟩ ⟨rfl, rfl, rfl, rfl, rfl, rfl, trivial⟩
            refine DRV.fork ?_ ?_
            · refine DRV.opE rfl rfl (runs_lit1R Tryd.underlying24 ti9 (by decide) rfl rfl rfl (by simp [Value.oneCell']) hst) ?_
              rintro u246 w ⟨I246, hI246, hstn, h246⟩
              clear hst
              have hst := hstn
              clear hstn
              replace hM := hM.mono hI246
              replace hl := hl.mono hI246
              replace hle := hle.trans hI246
              refine ⟨FSt w0 _ ((bq, Obj.cells (Value.agg #[.string (strOf n0), .string (strOf v0)]).cells 27) :: (Lv2 ++ L)), FSt.lift hI246, FSt.of hst (Imm.le.refl _) (by simp), ?_⟩
              have hQ : RdS _ u246 (poL.map strOf) := h246
              refine DRV.fork ?_ ?_
              · refine DRV.opE rfl rfl (runs_lit1R Tryd.underlying24 ti9 (by decide) rfl rfl rfl (by simp [Value.oneCell']) hst) ?_
                rintro u247 w ⟨I247, hI247, hstn, h247⟩
                clear hst
                have hst := hstn
                clear hstn
                replace hM := hM.mono hI247
                replace hl := hl.mono hI247
                replace h246 := h246.mono hI247
                replace hQ := hQ.mono hI247
                replace hle := hle.trans hI247
                refine ⟨FSt w0 _ ((bq, Obj.cells (Value.agg #[.string (strOf n0), .string (strOf v0)]).cells 27) :: (Lv2 ++ L)), FSt.lift hI247, FSt.of hst (Imm.le.refl _) (by simp), ?_⟩
                have hP : RdS _ u247 (prL.map strOf) := h247
                refine DRV.q rfl rfl (fun w' hF => RdL.indexAddr Tryd.underlying24 ti9 (by decide) rfl rfl hP ⟨r2z, r2t⟩) ?_
                refine DRV.q rfl rfl (FSt.load1 sc9 rfl (RdS.at hP r2z r2t)) ?_
                rw [ep0]
                refine DRV.q rfl rfl (fun w' hF => runs_addS rfl rfl (by simp only [ByteArray.size_append, strOfZ, show (ByteArray.mk #[58]).size = 1 from rfl, show (ByteArray.mk #[13, 10]).size = 2 from rfl]; omega)) ?_
                refine DRV.q rfl rfl (fun w' hF => runs_addS rfl rfl (by simp only [ByteArray.size_append, strOfZ, show (ByteArray.mk #[58]).size = 1 from rfl, show (ByteArray.mk #[13, 10]).size = 2 from rfl]; omega)) ?_
                refine DRV.call rfl rfl call8 rfl rfl (within_spec hst (v := IntKind.i64.wrap (x.tdiv 48)) (n := 2) (wrap_ok _) (by unfold i64ok; decide)) ?_
                rintro e w ⟨rfl, hstn⟩
                clear hst
                have hst := hstn
                clear hstn
                rw [hj3]
                refine ⟨_, rfl, FSt w0 _ ((bq, Obj.cells (Value.agg #[.string (strOf n0), .string (strOf v0)]).cells 27) :: (Lv2 ++ L)), FSt.lift (Imm.le.refl _), FSt.of hst (Imm.le.refl _) (by simp), ?_⟩
                refine DRV.q rfl rfl (fun w' hF => RdL.indexAddr Tryd.underlying24 ti9 (by decide) rfl rfl hQ ⟨r3z, r3t⟩) ?_
                refine DRV.q rfl rfl (FSt.load1 sc9 rfl (RdS.at hQ r3z r3t)) ?_
                rw [eq0]
                refine DRV.q rfl rfl (fun w' hF => runs_addS rfl rfl (by simp only [ByteArray.size_append, strOfZ, show (ByteArray.mk #[58]).size = 1 from rfl, show (ByteArray.mk #[13, 10]).size = 2 from rfl]; omega)) ?_
                refine DRV.q rfl rfl (fun w' hF => runs_addS rfl rfl (by simp only [ByteArray.size_append, strOfZ, show (ByteArray.mk #[58]).size = 1 from rfl, show (ByteArray.mk #[13, 10]).size = 2 from rfl]; omega)) ?_
                refine DRV.q rfl rfl (fun w' hF => runs_addS rfl rfl (by simp only [ByteArray.size_append, strOfZ, show (ByteArray.mk #[58]).size = 1 from rfl, show (ByteArray.mk #[13, 10]).size = 2 from rfl]; omega)) ?_
                refine DRV.q rfl rfl (fun w' hF => runs_assign rfl) ?_
                refine DRV.done ?_
                exact AQ.meet _ ⟨hle, hM, hl, hst⟩ ⟨rfl, rfl, rfl, rfl, rfl, rfl, trivial⟩
              refine DRV.call rfl rfl call8 rfl rfl (within_spec hst (v := IntKind.i64.wrap (x.tdiv 48)) (n := 2) (wrap_ok _) (by unfold i64ok; decide)) ?_
              rintro e w ⟨rfl, hstn⟩
              clear hst
              have hst := hstn
              clear hstn
              rw [hj3]
              refine ⟨_, rfl, FSt w0 _ ((bq, Obj.cells (Value.agg #[.string (strOf n0), .string (strOf v0)]).cells 27) :: (Lv2 ++ L)), FSt.lift (Imm.le.refl _), FSt.of hst (Imm.le.refl _) (by simp), ?_⟩
              refine DRV.q rfl rfl (fun w' hF => RdL.indexAddr Tryd.underlying24 ti9 (by decide) rfl rfl hQ ⟨r3z, r3t⟩) ?_
              refine DRV.q rfl rfl (FSt.load1 sc9 rfl (RdS.at hQ r3z r3t)) ?_
              rw [eq0]
              refine DRV.opE rfl rfl (runs_lit1R Tryd.underlying24 ti9 (by decide) rfl rfl rfl (by simp [Value.oneCell']) hst) ?_
              rintro u250 w ⟨I250, hI250, hstn, h250⟩
              clear hst
              have hst := hstn
              clear hstn
              replace hM := hM.mono hI250
              replace hl := hl.mono hI250
              replace h246 := h246.mono hI250
              replace hQ := hQ.mono hI250
              replace hle := hle.trans hI250
              refine ⟨FSt w0 _ ((bq, Obj.cells (Value.agg #[.string (strOf n0), .string (strOf v0)]).cells 27) :: (Lv2 ++ L)), FSt.lift hI250, FSt.of hst (Imm.le.refl _) (by simp), ?_⟩
              have hP : RdS _ u250 (prL.map strOf) := h250
              refine DRV.q rfl rfl (fun w' hF => RdL.indexAddr Tryd.underlying24 ti9 (by decide) rfl rfl hP ⟨r2z, r2t⟩) ?_
              refine DRV.q rfl rfl (FSt.load1 sc9 rfl (RdS.at hP r2z r2t)) ?_
              rw [ep0]
              refine DRV.q rfl rfl (fun w' hF => runs_addS rfl rfl (by simp only [ByteArray.size_append, strOfZ, show (ByteArray.mk #[58]).size = 1 from rfl, show (ByteArray.mk #[13, 10]).size = 2 from rfl]; omega)) ?_
              refine DRV.q rfl rfl (fun w' hF => runs_addS rfl rfl (by simp only [ByteArray.size_append, strOfZ, show (ByteArray.mk #[58]).size = 1 from rfl, show (ByteArray.mk #[13, 10]).size = 2 from rfl]; omega)) ?_
              refine DRV.q rfl rfl (fun w' hF => runs_addS rfl rfl (by simp only [ByteArray.size_append, strOfZ, show (ByteArray.mk #[58]).size = 1 from rfl, show (ByteArray.mk #[13, 10]).size = 2 from rfl]; omega)) ?_
              refine DRV.q rfl rfl (fun w' hF => runs_addS rfl rfl (by simp only [ByteArray.size_append, strOfZ, show (ByteArray.mk #[58]).size = 1 from rfl, show (ByteArray.mk #[13, 10]).size = 2 from rfl]; omega)) ?_
              refine DRV.q rfl rfl (fun w' hF => runs_addS rfl rfl (by simp only [ByteArray.size_append, strOfZ, show (ByteArray.mk #[58]).size = 1 from rfl, show (ByteArray.mk #[13, 10]).size = 2 from rfl]; omega)) ?_
              refine DRV.q rfl rfl (fun w' hF => runs_assign rfl) ?_
              refine DRV.done ?_
              exact AQ.meet _ ⟨hle, hM, hl, hst⟩ ⟨rfl, rfl, rfl, rfl, rfl, rfl, trivial⟩
            refine DRV.call rfl rfl call8 rfl rfl (within_spec hst (v := IntKind.i64.wrap (x.tdiv 48)) (n := 2) (wrap_ok _) (by unfold i64ok; decide)) ?_
            rintro e w ⟨rfl, hstn⟩
            clear hst
            have hst := hstn
            clear hstn
            rw [hj3]
            refine ⟨_, rfl, FSt w0 _ ((bq, Obj.cells (Value.agg #[.string (strOf n0), .string (strOf v0)]).cells 27) :: (Lv2 ++ L)), FSt.lift (Imm.le.refl _), FSt.of hst (Imm.le.refl _) (by simp), ?_⟩
            refine DRV.fork ?_ ?_
            · refine DRV.opE rfl rfl (runs_lit1R Tryd.underlying24 ti9 (by decide) rfl rfl rfl (by simp [Value.oneCell']) hst) ?_
              rintro u252 w ⟨I252, hI252, hstn, h252⟩
              clear hst
              have hst := hstn
              clear hstn
              replace hM := hM.mono hI252
              replace hl := hl.mono hI252
              replace hle := hle.trans hI252
              refine ⟨FSt w0 _ ((bq, Obj.cells (Value.agg #[.string (strOf n0), .string (strOf v0)]).cells 27) :: (Lv2 ++ L)), FSt.lift hI252, FSt.of hst (Imm.le.refl _) (by simp), ?_⟩
              have hP : RdS _ u252 (prL.map strOf) := h252
              refine DRV.q rfl rfl (fun w' hF => RdL.indexAddr Tryd.underlying24 ti9 (by decide) rfl rfl hP ⟨r2z, r2t⟩) ?_
              refine DRV.q rfl rfl (FSt.load1 sc9 rfl (RdS.at hP r2z r2t)) ?_
              rw [ep0]
              refine DRV.q rfl rfl (fun w' hF => runs_addS rfl rfl (by simp only [ByteArray.size_append, strOfZ, show (ByteArray.mk #[58]).size = 1 from rfl, show (ByteArray.mk #[13, 10]).size = 2 from rfl]; omega)) ?_
              refine DRV.q rfl rfl (fun w' hF => runs_addS rfl rfl (by simp only [ByteArray.size_append, strOfZ, show (ByteArray.mk #[58]).size = 1 from rfl, show (ByteArray.mk #[13, 10]).size = 2 from rfl]; omega)) ?_
              refine DRV.opE rfl rfl (runs_lit1R Tryd.underlying24 ti9 (by decide) rfl rfl rfl (by simp [Value.oneCell']) hst) ?_
              rintro u253 w ⟨I253, hI253, hstn, h253⟩
              clear hst
              have hst := hstn
              clear hstn
              replace hM := hM.mono hI253
              replace hl := hl.mono hI253
              replace h252 := h252.mono hI253
              replace hP := hP.mono hI253
              replace hle := hle.trans hI253
              refine ⟨FSt w0 _ ((bq, Obj.cells (Value.agg #[.string (strOf n0), .string (strOf v0)]).cells 27) :: (Lv2 ++ L)), FSt.lift hI253, FSt.of hst (Imm.le.refl _) (by simp), ?_⟩
              have hQ : RdS _ u253 (poL.map strOf) := h253
              refine DRV.q rfl rfl (fun w' hF => RdL.indexAddr Tryd.underlying24 ti9 (by decide) rfl rfl hQ ⟨r3z, r3t⟩) ?_
              refine DRV.q rfl rfl (FSt.load1 sc9 rfl (RdS.at hQ r3z r3t)) ?_
              rw [eq0]
              refine DRV.q rfl rfl (fun w' hF => runs_addS rfl rfl (by simp only [ByteArray.size_append, strOfZ, show (ByteArray.mk #[58]).size = 1 from rfl, show (ByteArray.mk #[13, 10]).size = 2 from rfl]; omega)) ?_
              refine DRV.q rfl rfl (fun w' hF => runs_addS rfl rfl (by simp only [ByteArray.size_append, strOfZ, show (ByteArray.mk #[58]).size = 1 from rfl, show (ByteArray.mk #[13, 10]).size = 2 from rfl]; omega)) ?_
              refine DRV.q rfl rfl (fun w' hF => runs_addS rfl rfl (by simp only [ByteArray.size_append, strOfZ, show (ByteArray.mk #[58]).size = 1 from rfl, show (ByteArray.mk #[13, 10]).size = 2 from rfl]; omega)) ?_
              refine DRV.q rfl rfl (fun w' hF => runs_assign rfl) ?_
              refine DRV.done ?_
              exact AQ.meet _ ⟨hle, hM, hl, hst⟩ ⟨rfl, rfl, rfl, rfl, rfl, rfl, trivial⟩
            refine DRV.opE rfl rfl (runs_lit1R Tryd.underlying24 ti9 (by decide) rfl rfl rfl (by simp [Value.oneCell']) hst) ?_
            rintro u254 w ⟨I254, hI254, hstn, h254⟩
            clear hst
            have hst := hstn
            clear hstn
            replace hM := hM.mono hI254
            replace hl := hl.mono hI254
            replace hle := hle.trans hI254
            refine ⟨FSt w0 _ ((bq, Obj.cells (Value.agg #[.string (strOf n0), .string (strOf v0)]).cells 27) :: (Lv2 ++ L)), FSt.lift hI254, FSt.of hst (Imm.le.refl _) (by simp), ?_⟩
            have hQ : RdS _ u254 (poL.map strOf) := h254
            refine DRV.q rfl rfl (fun w' hF => RdL.indexAddr Tryd.underlying24 ti9 (by decide) rfl rfl hQ ⟨r3z, r3t⟩) ?_
            refine DRV.q rfl rfl (FSt.load1 sc9 rfl (RdS.at hQ r3z r3t)) ?_
            rw [eq0]
            refine DRV.opE rfl rfl (runs_lit1R Tryd.underlying24 ti9 (by decide) rfl rfl rfl (by simp [Value.oneCell']) hst) ?_
            rintro u255 w ⟨I255, hI255, hstn, h255⟩
            clear hst
            have hst := hstn
            clear hstn
            replace hM := hM.mono hI255
            replace hl := hl.mono hI255
            replace h254 := h254.mono hI255
            replace hQ := hQ.mono hI255
            replace hle := hle.trans hI255
            refine ⟨FSt w0 _ ((bq, Obj.cells (Value.agg #[.string (strOf n0), .string (strOf v0)]).cells 27) :: (Lv2 ++ L)), FSt.lift hI255, FSt.of hst (Imm.le.refl _) (by simp), ?_⟩
            have hP : RdS _ u255 (prL.map strOf) := h255
            refine DRV.q rfl rfl (fun w' hF => RdL.indexAddr Tryd.underlying24 ti9 (by decide) rfl rfl hP ⟨r2z, r2t⟩) ?_
            refine DRV.q rfl rfl (FSt.load1 sc9 rfl (RdS.at hP r2z r2t)) ?_
            rw [ep0]
            refine DRV.q rfl rfl (fun w' hF => runs_addS rfl rfl (by simp only [ByteArray.size_append, strOfZ, show (ByteArray.mk #[58]).size = 1 from rfl, show (ByteArray.mk #[13, 10]).size = 2 from rfl]; omega)) ?_
            refine DRV.q rfl rfl (fun w' hF => runs_addS rfl rfl (by simp only [ByteArray.size_append, strOfZ, show (ByteArray.mk #[58]).size = 1 from rfl, show (ByteArray.mk #[13, 10]).size = 2 from rfl]; omega)) ?_
            refine DRV.q rfl rfl (fun w' hF => runs_addS rfl rfl (by simp only [ByteArray.size_append, strOfZ, show (ByteArray.mk #[58]).size = 1 from rfl, show (ByteArray.mk #[13, 10]).size = 2 from rfl]; omega)) ?_
            refine DRV.q rfl rfl (fun w' hF => runs_addS rfl rfl (by simp only [ByteArray.size_append, strOfZ, show (ByteArray.mk #[58]).size = 1 from rfl, show (ByteArray.mk #[13, 10]).size = 2 from rfl]; omega)) ?_
            refine DRV.q rfl rfl (fun w' hF => runs_addS rfl rfl (by simp only [ByteArray.size_append, strOfZ, show (ByteArray.mk #[58]).size = 1 from rfl, show (ByteArray.mk #[13, 10]).size = 2 from rfl]; omega)) ?_
            refine DRV.q rfl rfl (fun w' hF => runs_assign rfl) ?_
            refine DRV.done ?_
            exact AQ.meet _ ⟨hle, hM, hl, hst⟩ ⟨rfl, rfl, rfl, rfl, rfl, rfl, trivial⟩
          refine DRV.opE rfl rfl (runs_lit1R Tryd.underlying24 ti9 (by decide) rfl rfl rfl (by simp [Value.oneCell']) hst) ?_
          rintro u256 w ⟨I256, hI256, hstn, h256⟩
          clear hst
          have hst := hstn
          clear hstn
          replace hM := hM.mono hI256
          replace hl := hl.mono hI256
          replace hle := hle.trans hI256
          refine ⟨FSt w0 _ ((bq, Obj.cells (Value.agg #[.string (strOf n0), .string (strOf v0)]).cells 27) :: (Lv2 ++ L)), FSt.lift hI256, FSt.of hst (Imm.le.refl _) (by simp), ?_⟩
          have hQ : RdS _ u256 (poL.map strOf) := h256
          refine DRV.fork ?_ ?_
          · refine DRV.opE rfl rfl (runs_lit1R Tryd.underlying24 ti9 (by decide) rfl rfl rfl (by simp [Value.oneCell']) hst) ?_
            rintro u257 w ⟨I257, hI257, hstn, h257⟩
            clear hst
            have hst := hstn
            clear hstn
            replace hM := hM.mono hI257
            replace hl := hl.mono hI257
            replace h256 := h256.mono hI257
            replace hQ := hQ.mono hI257
            replace hle := hle.trans hI257
            refine ⟨FSt w0 _ ((bq, Obj.cells (Value.agg #[.string (strOf n0), .string (strOf v0)]).cells 27) :: (Lv2 ++ L)), FSt.lift hI257, FSt.of hst (Imm.le.refl _) (by simp), ?_⟩
            have hP : RdS _ u257 (prL.map strOf) := h257
            refine DRV.call rfl rfl call8 rfl rfl (within_spec hst (v := IntKind.i64.wrap (x.tdiv 16)) (n := 3) (wrap_ok _) (by unfold i64ok; decide)) ?_
            rintro e w ⟨rfl, hstn⟩
            clear hst
            have hst := hstn
            clear hstn
            rw [hj2]
            refine ⟨_, rfl, FSt w0 _ ((bq, Obj.cells (Value.agg #[.string (strOf n0), .string (strOf v0)]).cells 27) :: (Lv2 ++ L)), FSt.lift (Imm.le.refl _), FSt.of hst (Imm.le.refl _) (by simp), ?_⟩
            refine DRV.q rfl rfl (fun w' hF => RdL.indexAddr Tryd.underlying24 ti9 (by decide) rfl rfl hP ⟨r2z, r2t⟩) ?_
            refine DRV.q rfl rfl (FSt.load1 sc9 rfl (RdS.at hP r2z r2t)) ?_
            rw [ep0]
            refine DRV.q rfl rfl (fun w' hF => runs_addS rfl rfl (by simp only [ByteArray.size_append, strOfZ, show (ByteArray.mk #[58]).size = 1 from rfl, show (ByteArray.mk #[13, 10]).size = 2 from rfl]; omega)) ?_
            refine DRV.q rfl rfl (fun w' hF => runs_addS rfl rfl (by simp only [ByteArray.size_append, strOfZ, show (ByteArray.mk #[58]).size = 1 from rfl, show (ByteArray.mk #[13, 10]).size = 2 from rfl]; omega)) ?_
            refine DRV.call rfl rfl call8 rfl rfl (within_spec hst (v := IntKind.i64.wrap (x.tdiv 48)) (n := 2) (wrap_ok _) (by unfold i64ok; decide)) ?_
            rintro e w ⟨rfl, hstn⟩
            clear hst
            have hst := hstn
            clear hstn
            rw [hj3]
            refine ⟨_, rfl, FSt w0 _ ((bq, Obj.cells (Value.agg #[.string (strOf n0), .string (strOf v0)]).cells 27) :: (Lv2 ++ L)), FSt.lift (Imm.le.refl _), FSt.of hst (Imm.le.refl _) (by simp), ?_⟩
            refine DRV.q rfl rfl (fun w' hF => RdL.indexAddr Tryd.underlying24 ti9 (by decide) rfl rfl hQ ⟨r3z, r3t⟩) ?_
            refine DRV.q rfl rfl (FSt.load1 sc9 rfl (RdS.at hQ r3z r3t)) ?_
            rw [eq0]
            refine DRV.q rfl rfl (fun w' hF => runs_addS rfl rfl (by simp only [ByteArray.size_append, strOfZ, show (ByteArray.mk #[58]).size = 1 from rfl, show (ByteArray.mk #[13, 10]).size = 2 from rfl]; omega)) ?_
            refine DRV.q rfl rfl (fun w' hF => runs_addS rfl rfl (by simp only [ByteArray.size_append, strOfZ, show (ByteArray.mk #[58]).size = 1 from rfl, show (ByteArray.mk #[13, 10]).size = 2 from rfl]; omega)) ?_
            refine DRV.q rfl rfl (fun w' hF => runs_addS rfl rfl (by simp only [ByteArray.size_append, strOfZ, show (ByteArray.mk #[58]).size = 1 from rfl, show (ByteArray.mk #[13, 10]).size = 2 from rfl]; omega)) ?_
            refine DRV.q rfl rfl (fun w' hF => runs_assign rfl) ?_
            refine DRV.done ?_
            exact AQ.meet _ ⟨hle, hM, hl, hst⟩ ⟨rfl, rfl, rfl, rfl, rfl, rfl, trivial⟩
          refine DRV.call rfl rfl call8 rfl rfl (within_spec hst (v := IntKind.i64.wrap (x.tdiv 16)) (n := 3) (wrap_ok _) (by unfold i64ok; decide)) ?_
          rintro e w ⟨rfl, hstn⟩
          clear hst
          have hst := hstn
          clear hstn
          rw [hj2]
          refine ⟨_, rfl, FSt w0 _ ((bq, Obj.cells (Value.agg #[.string (strOf n0), .string (strOf v0)]).cells 27) :: (Lv2 ++ L)), FSt.lift (Imm.le.refl _), FSt.of hst (Imm.le.refl _) (by simp), ?_⟩
          refine DRV.fork ?_ ?_
          · refine DRV.opE rfl rfl (runs_lit1R Tryd.underlying24 ti9 (by decide) rfl rfl rfl (by simp [Value.oneCell']) hst) ?_
            rintro u261 w ⟨I261, hI261, hstn, h261⟩
            clear hst
            have hst := hstn
            clear hstn
            replace hM := hM.mono hI261
            replace hl := hl.mono hI261
            replace h256 := h256.mono hI261
            replace hQ := hQ.mono hI261
            replace hle := hle.trans hI261
            refine ⟨FSt w0 _ ((bq, Obj.cells (Value.agg #[.string (strOf n0), .string (strOf v0)]).cells 27) :: (Lv2 ++ L)), FSt.lift hI261, FSt.of hst (Imm.le.refl _) (by simp), ?_⟩
            have hP : RdS _ u261 (prL.map strOf) := h261
            refine DRV.q rfl rfl (fun w' hF => RdL.indexAddr Tryd.underlying24 ti9 (by decide) rfl rfl hP ⟨r2z, r2t⟩) ?_
            refine DRV.q rfl rfl (FSt.load1 sc9 rfl (RdS.at hP r2z r2t)) ?_
            rw [ep0]
            refine DRV.q rfl rfl (fun w' hF => runs_addS rfl rfl (by simp only [ByteArray.size_append, strOfZ, show (ByteArray.mk #[58]).size = 1 from rfl, show (ByteArray.mk #[13, 10]).size = 2 from rfl]; omega)) ?_
            refine DRV.q rfl rfl (fun w' hF => runs_addS rfl rfl (by simp only [ByteArray.size_append, strOfZ, show (ByteArray.mk #[58]).size = 1 from rfl, show (ByteArray.mk #[13, 10]).size = 2 from rfl]; omega)) ?_
            refine DRV.call rfl rfl call8 rfl rfl (within_spec hst (v := IntKind.i64.wrap (x.tdiv 48)) (n := 2) (wrap_ok _) (by unfold i64ok; decide)) ?_
            rintro e w ⟨rfl, hstn⟩
            clear hst
            have hst := hstn
            clear hstn
            rw [hj3]
            refine ⟨_, rfl, FSt w0 _ ((bq, Obj.cells (Value.agg #[.string (strOf n0), .string (strOf v0)]).cells 27) :: (Lv2 ++ L)), FSt.lift (Imm.le.refl _), FSt.of hst (Imm.le.refl _) (by simp), ?_⟩
            refine DRV.q rfl rfl (fun w' hF => RdL.indexAddr Tryd.underlying24 ti9 (by decide) rfl rfl hQ ⟨r3z, r3t⟩) ?_
            refine DRV.q rfl rfl (FSt.load1 sc9 rfl (RdS.at hQ r3z r3t)) ?_
            rw [eq0]
            refine DRV.q rfl rfl (fun w' hF => runs_addS rfl rfl (by simp only [ByteArray.size_append, strOfZ, show (ByteArray.mk #[58]).size = 1 from rfl, show (ByteArray.mk #[13, 10]).size = 2 from rfl]; omega)) ?_
            refine DRV.q rfl rfl (fun w' hF => runs_addS rfl rfl (by simp only [ByteArray.size_append, strOfZ, show (ByteArray.mk #[58]).size = 1 from rfl, show (ByteArray.mk #[13, 10]).size = 2 from rfl]; omega)) ?_
            refine DRV.q rfl rfl (fun w' hF => runs_addS rfl rfl (by simp only [ByteArray.size_append, strOfZ, show (ByteArray.mk #[58]).size = 1 from rfl, show (ByteArray.mk #[13, 10]).size = 2 from rfl]; omega)) ?_
            refine DRV.q rfl rfl (fun w' hF => runs_assign rfl) ?_
            refine DRV.done ?_
            exact AQ.meet _ ⟨hle, hM, hl, hst⟩ ⟨rfl, rfl, rfl, rfl, rfl, rfl, trivial⟩
          refine DRV.call rfl rfl call8 rfl rfl (within_spec hst (v := IntKind.i64.wrap (x.tdiv 48)) (n := 2) (wrap_ok _) (by unfold i64ok; decide)) ?_
          rintro e w ⟨rfl, hstn⟩
          clear hst
          have hst := hstn
          clear hstn
          rw [hj3]
          refine ⟨_, rfl, FSt w0 _ ((bq, Obj.cells (Value.agg #[.string (strOf n0), .string (strOf v0)]).cells 27) :: (Lv2 ++ L)), FSt.lift (Imm.le.refl _), FSt.of hst (Imm.le.refl _) (by simp), ?_⟩
          refine DRV.q rfl rfl (fun w' hF => RdL.indexAddr Tryd.underlying24 ti9 (by decide) rfl rfl hQ ⟨r3z, r3t⟩) ?_
          refine DRV.q rfl rfl (FSt.load1 sc9 rfl (RdS.at hQ r3z r3t)) ?_
          rw [eq0]
          refine DRV.opE rfl rfl (runs_lit1R Tryd.underlying24 ti9 (by decide) rfl rfl rfl (by simp [Value.oneCell']) hst) ?_
          rintro u264 w ⟨I264, hI264, hstn, h264⟩
          clear hst
          have hst := hstn
          clear hstn
          replace hM := hM.mono hI264
          replace hl := hl.mono hI264
          replace h256 := h256.mono hI264
          replace hQ := hQ.mono hI264
          replace hle := hle.trans hI264
          refine ⟨FSt w0 _ ((bq, Obj.cells (Value.agg #[.string (strOf n0), .string (strOf v0)]).cells 27) :: (Lv2 ++ L)), FSt.lift hI264, FSt.of hst (Imm.le.refl _) (by simp), ?_⟩
          have hP : RdS _ u264 (prL.map strOf) := h264
          refine DRV.q rfl rfl (fun w' hF => RdL.indexAddr Tryd.underlying24 ti9 (by decide) rfl rfl hP ⟨r2z, r2t⟩) ?_
          refine DRV.q rfl rfl (FSt.load1 sc9 rfl (RdS.at hP r2z r2t)) ?_
          rw [ep0]
          refine DRV.q rfl rfl (fun w' hF => runs_addS rfl rfl (by simp only [ByteArray.size_append, strOfZ, show (ByteArray.mk #[58]).size = 1 from rfl, show (ByteArray.mk #[13, 10]).size = 2 from rfl]; omega)) ?_
          refine DRV.q rfl rfl (fun w' hF => runs_addS rfl rfl (by simp only [ByteArray.size_append, strOfZ, show (ByteArray.mk #[58]).size = 1 from rfl, show (ByteArray.mk #[13, 10]).size = 2 from rfl]; omega)) ?_
          refine DRV.q rfl rfl (fun w' hF => runs_addS rfl rfl (by simp only [ByteArray.size_append, strOfZ, show (ByteArray.mk #[58]).size = 1 from rfl, show (ByteArray.mk #[13, 10]).size = 2 from rfl]; omega)) ?_
          refine DRV.q rfl rfl (fun w' hF => runs_addS rfl rfl (by simp only [ByteArray.size_append, strOfZ, show (ByteArray.mk #[58]).size = 1 from rfl, show (ByteArray.mk #[13, 10]).size = 2 from rfl]; omega)) ?_
          refine DRV.q rfl rfl (fun w' hF => runs_addS rfl rfl (by simp only [ByteArray.size_append, strOfZ, show (ByteArray.mk #[58]).size = 1 from rfl, show (ByteArray.mk #[13, 10]).size = 2 from rfl]; omega)) ?_
          refine DRV.q rfl rfl (fun w' hF => runs_assign rfl) ?_
          refine DRV.done ?_
          exact AQ.meet _ ⟨hle, hM, hl, hst⟩ ⟨rfl, rfl, rfl, rfl, rfl, rfl, trivial⟩
        · clear hle hM hl
          rintro I7 w ⟨hle, hM, hl, hstn⟩
          clear hst
          have hst := hstn
          clear hstn
          rw [topT_more]
          refine AQ.next ?_
          -- region 8
          refine CW.region ?_
          refine RW.op1 rfl (runs_move rfl) ?_
          refine RW.op1 rfl (runs_loadN (vs := [.string (strOf n0), .string (strOf v0)]) ag27 ti27 rfl hst (k := 0) rfl rfl rfl) ?_
          refine RW.opE rfl (runs_litF (xs := [.agg #[_, _]]) Tryd.underlying23 ti27 (by decide) rfl rfl rfl rfl rfl hst (by decide)) ?_
          rintro u265 w ⟨Lv265, hstn, hg265⟩
          clear hst
          have hst := hstn
          clear hstn
          obtain ⟨J265, hJ265, hstn, h265⟩ := Grow.freeze hg265 hst
          clear hst
          have hst := hstn
          clear hstn
          replace hM := hM.mono hJ265
          replace hl := hl.mono hJ265
          replace hle := hle.trans hJ265
          try simp only [List.nil_append] at h265
          replace h265 : RdL J265 2 u265 1 (hrow (hrowL (n0, v0))) := h265
          have hL := h265
          refine RW.opE rfl (runs_appendRA [_] Tryd.underlying23 ti27 rfl (by decide) rfl rfl hst hg2 hL (by omega) (by unfold maxLen; omega)) ?_
          rintro uN w ⟨LvN, hstn, hgN⟩
          clear hst
          have hst := hstn
          clear hstn
          have hg3 : Grow 27 2 uN (rs ++ [rowOf n0 p0 v0 q0]).length ((((rs ++ [rowOf n0 p0 v0 q0]).map (·.2)).map hrowL).flatMap hrow) LvN := by
            rw [List.length_append, List.map_append, List.map_append, List.flatMap_append]
            exact hgN
          refine RW.op1 rfl (runs_assign rfl) ?_
          refine RW.done ?_
          refine AQ.block_normal ?_
          refine AQ.next ?_
          -- region 5
          refine CW.region ?_
          refine RW.op1 rfl (runs_move rfl) ?_
          refine RW.op1 rfl (runs_add rfl rfl (by omega)) ?_
          refine RW.op1 rfl (runs_assign rfl) ?_
          refine RW.done ?_
          exact AQ.again (x := (k, I2, v2, Lv2, rs)) (k + 1, _, uN, LvN, rs ++ [rowOf n0 p0 v0 q0]) ⟨hle, hM, hl, hst.drop1, hg3, by simp [hrk], by omega, by
            intro r hr
            rcases List.mem_append.1 hr with h | h
            · exact hrs r h
            · rw [List.mem_singleton.1 h]; exact hgr⟩ ⟨rfl, rfl, rfl, rfl, rfl, trivial⟩ (by dsimp only; omega)
    · have hcb18 := hc18
      try simp only [decide_eq_true_eq, decide_eq_false_iff_not] at hc18
      skip
      refine CW.exit ?_
      refine AQ.past_exit ?_
      refine AQ.past_exit ?_
      refine AQ.block_hit ?_
      refine AQ.next ?_
      refine CW.seq ?_
      -- region 9
      refine CW.region ?_
      obtain ⟨I9, hI9, hst9, hv9⟩ := hg2.freeze hst
      clear hst
      have hst := hst9
      clear hst9
      replace hM := hM.mono hI9
      replace hle := hle.trans hI9
      replace hv9 : RdH I9 v2 ((rs.map (·.2)).map hrowL) := by
        unfold RdH
        rw [List.length_map, List.length_map]
        exact hv9
      have hho := heads_out hrs body.toList
      generalize topT rs = tt at htl hho ⊢
      refine RW.op1 rfl (runs_move rfl) ?_
      refine RW.op1 rfl (runs_addS rfl rfl (by simp only [ByteArray.size_append, strOfZ, show (ByteArray.mk #[58]).size = 1 from rfl, show (ByteArray.mk #[13, 10]).size = 2 from rfl]; omega)) ?_
      refine RW.op1 rfl (runs_move rfl) ?_
      refine RW.op1 rfl (runs_addS rfl rfl (by simp only [ByteArray.size_append, strOfZ, show (ByteArray.mk #[58]).size = 1 from rfl, show (ByteArray.mk #[13, 10]).size = 2 from rfl]; omega)) ?_
      refine RW.call rfl call9 rfl rfl (parse2_spec hst hM (strOf tt ++ ByteArray.mk #[13, 10] ++ body) (by simp only [ByteArray.size_append, strOfZ, show (ByteArray.mk #[13, 10]).size = 2 from rfl]; omega)) ?_
      rintro e w ⟨I267, pA, pc, hI267, rfl, hstn, hpv, _, _, _⟩
      clear hst
      have hst := hstn
      clear hstn
      have htx : (strOf tt ++ ByteArray.mk #[13, 10] ++ body).toList = tt ++ [13, 10] ++ body.toList := by
        rw [← strOfE body, show (ByteArray.mk #[13, 10]) = strOf [13, 10] from rfl, strOf_append, strOf_append, strOf_toList, strOf_toList]
      rw [htx] at hpv ⊢
      generalize outR (tt ++ [13, 10] ++ body.toList) = r at hpv hho ⊢
      generalize errR (tt ++ [13, 10] ++ body.toList) = er at hho ⊢
      replace hM := hM.mono hI267
      replace hv9 := hv9.mono hI267
      replace hle := hle.trans hI267
      refine ⟨_, rfl, ?_⟩
      refine RW.op1 rfl (runs_move rfl) ?_
      refine RW.op1 rfl (runs_extract rfl rfl) ?_
      refine RW.op1 rfl (runs_extract rfl rfl) ?_
      refine RW.opE rfl (runs_alloc ti29 hst) ?_
      rintro _ w ⟨b268, rfl, hstn⟩
      clear hst
      have hst := hstn
      clear hstn
      first
        | refine RW.opE0 (runs_storeW ti29 rfl rfl hst (k := 0) rfl rfl rfl (NoFz.zero _) rfl) ?_
        | refine RW.opE0 (runs_storeP ti29 rfl rfl hst (k := 0) rfl rfl rfl (NoFz.zero _) rfl) ?_
        | refine RW.opE0 (runs_storeW ti29 rfl rfl hst (k := 1) rfl rfl rfl (NoFz.zero _) rfl) ?_
        | refine RW.opE0 (runs_storeP ti29 rfl rfl hst (k := 1) rfl rfl rfl (NoFz.zero _) rfl) ?_
        | refine RW.opE0 (runs_storeW ti29 rfl rfl hst (k := 2) rfl rfl rfl (NoFz.zero _) rfl) ?_
        | refine RW.opE0 (runs_storeP ti29 rfl rfl hst (k := 2) rfl rfl rfl (NoFz.zero _) rfl) ?_
      rintro w hstn
      clear hst
      have hst := hstn
      clear hstn
      try simp only [List.set_cons_zero, List.set_cons_succ] at hst
      refine RW.op1 rfl (runs_assign rfl) ?_
      refine RW.done ?_
      refine AQ.next ?_
      refine CW.seq ?_
      refine CW.seq ?_
      -- region 10
      refine CW.region ?_
      refine RW.op1 rfl (runs_move rfl) ?_
      refine RW.op1 rfl (RdL.len Tryd.underlying23 rfl hv9) ?_
      rw [List.length_map, List.length_map]
      refine RW.op1 rfl (runs_gtr rfl rfl) ?_
      refine RW.done ?_
      refine AQ.next ?_
      refine CW.cond rfl (fun hc82 => ?_) (fun hc82 => ?_)
      · have hcb82 := hc82
        try simp only [decide_eq_true_eq, decide_eq_false_iff_not] at hc82
        have h8 := hho.1 (by omega)
        subst h8
        refine CW.seq ?_
        -- region 11
        refine CW.region ?_
        refine RW.op1 rfl (runs_move rfl) ?_
        refine RW.op1 rfl (runs_eqI rfl rfl) ?_
        refine RW.op1 rfl (runs_move rfl) ?_
        have hk85 := (show decide ((2 : Int) = 2) = true by decide)
        refine RW.on_guard rfl rfl rfl rfl hk85 ?_
        refine RW.call rfl call10 rfl rfl (wakes09_spec hst hM) ?_
        rintro e w ⟨rfl, I270, hI270, hstn⟩
        clear hst
        have hst := hstn
        clear hstn
        replace hM := hM.mono hI270
        replace hv9 := hv9.mono hI270
        replace hpv := hpv.mono hI270
        replace hle := hle.trans hI270
        refine ⟨_, rfl, ?_⟩
        refine RW.op1 rfl (runs_pick_true rfl hk85 rfl) ?_
        refine RW.op1 rfl (runs_assign rfl) ?_
        refine RW.done ?_
        refine AQ.next ?_
        refine CW.ret ?_
        refine AQ.past_ret ?_
        refine AQ.ret1 rfl rfl ?_
        exact ⟨rfl, _, hle, hst.drop1⟩
      · have hcb82 := hc82
        try simp only [decide_eq_true_eq, decide_eq_false_iff_not] at hc82
        obtain ⟨h8, h9⟩ := hho.2 (by omega)
        subst h8 h9
        dsimp only at hpv hst ⊢
        refine CW.skip ?_
        refine AQ.next ?_
        refine CW.seq ?_
        -- region 12
        refine CW.region ?_
        refine RW.op1 rfl (runs_move rfl) ?_
        refine RW.op1 rfl (runs_eqI rfl rfl) ?_
        refine RW.op1 rfl (runs_move rfl) ?_
        have hk90 := (show decide ((0 : Int) = 0) = true by decide)
        refine RW.on_guard rfl rfl rfl rfl hk90 ?_
        first
          | refine RW.op1 rfl (runs_fieldAddr0 rfl Tryd.underlying29 rfl ti3 (by decide)) ?_
          | refine RW.op1 rfl (runs_fieldAddr rfl Tryd.underlying29 rfl ti3 (by decide)) ?_
        refine RW.on_guard rfl rfl rfl rfl hk90 ?_
        first
          | refine RW.op1 rfl (runs_load1 sc3 rfl (hst.cell_own (k := 0) rfl rfl)) ?_
          | refine RW.op1 rfl (runs_load1 sc3 rfl (hst.cell_own (k := 1) rfl rfl)) ?_
          | refine RW.op1 rfl (runs_load1 sc3 rfl (hst.cell_own (k := 2) rfl rfl)) ?_
        refine RW.on_guard rfl rfl rfl rfl hk90 ?_
        refine RW.op1 rfl (runs_eqI rfl rfl) ?_
        refine RW.op1 rfl (runs_pick_true rfl hk90 rfl) ?_
        refine RW.op1 rfl (runs_move rfl) ?_
        have hk95 := (show decide ((200 : Int) = 200) = true by decide)
        refine RW.on_guard rfl rfl rfl rfl hk95 ?_
        first
          | refine RW.op1 rfl (runs_fieldAddr0 rfl Tryd.underlying29 rfl ti23 (by decide)) ?_
          | refine RW.op1 rfl (runs_fieldAddr rfl Tryd.underlying29 rfl ti23 (by decide)) ?_
        refine RW.on_guard rfl rfl rfl rfl hk95 ?_
        first
          | refine RW.op1 rfl (runs_load1 sc23 rfl (hst.cell_own (k := 0) rfl rfl)) ?_
          | refine RW.op1 rfl (runs_load1 sc23 rfl (hst.cell_own (k := 1) rfl rfl)) ?_
          | refine RW.op1 rfl (runs_load1 sc23 rfl (hst.cell_own (k := 2) rfl rfl)) ?_
        refine RW.on_guard rfl rfl rfl rfl hk95 ?_
        refine RW.op1 rfl (runs_move rfl) ?_
        refine RW.on_guard rfl rfl rfl rfl hk95 ?_
        refine RW.call rfl call11 rfl rfl (sameH_spec hst hpv hv9 (by rw [List.length_map, List.length_map]; omega)) ?_
        rintro e w ⟨rfl, hstn⟩
        clear hst
        have hst := hstn
        clear hstn
        refine ⟨_, rfl, ?_⟩
        refine RW.op1 rfl (runs_pick_true rfl hk95 rfl) ?_
        refine RW.op1 rfl (runs_move rfl) ?_
        have hk101 := (show true = true from rfl)
        refine RW.on_guard rfl rfl rfl rfl hk101 ?_
        first
          | refine RW.op1 rfl (runs_fieldAddr0 rfl Tryd.underlying29 rfl ti9 (by decide)) ?_
          | refine RW.op1 rfl (runs_fieldAddr rfl Tryd.underlying29 rfl ti9 (by decide)) ?_
        refine RW.on_guard rfl rfl rfl rfl hk101 ?_
        first
          | refine RW.op1 rfl (runs_load1 sc9 rfl (hst.cell_own (k := 0) rfl rfl)) ?_
          | refine RW.op1 rfl (runs_load1 sc9 rfl (hst.cell_own (k := 1) rfl rfl)) ?_
          | refine RW.op1 rfl (runs_load1 sc9 rfl (hst.cell_own (k := 2) rfl rfl)) ?_
        refine RW.on_guard rfl rfl rfl rfl hk101 ?_
        refine RW.op1 rfl (runs_move rfl) ?_
        refine RW.on_guard rfl rfl rfl rfl hk101 ?_
        refine RW.op1 rfl (runs_eqS rfl rfl) ?_
        refine RW.op1 rfl (runs_pick_true rfl hk101 rfl) ?_
        refine RW.op1 rfl (runs_move rfl) ?_
        have hk107 := (show ((strOf body.toList).toList == body.toList) = true by rw [strOf_toList]; simp)
        refine RW.on_guard rfl rfl rfl rfl hk107 ?_
        first
          | refine RW.op1 rfl (runs_fieldAddr0 rfl Tryd.underlying29 rfl ti4 (by decide)) ?_
          | refine RW.op1 rfl (runs_fieldAddr rfl Tryd.underlying29 rfl ti4 (by decide)) ?_
        refine RW.on_guard rfl rfl rfl rfl hk107 ?_
        first
          | refine RW.op1 rfl (runs_load1 sc4 rfl (hst.cell_own (k := 0) rfl rfl)) ?_
          | refine RW.op1 rfl (runs_load1 sc4 rfl (hst.cell_own (k := 1) rfl rfl)) ?_
          | refine RW.op1 rfl (runs_load1 sc4 rfl (hst.cell_own (k := 2) rfl rfl)) ?_
        refine RW.on_guard rfl rfl rfl rfl hk107 ?_
        refine RW.op1 rfl (runs_not rfl) ?_
        refine RW.op1 rfl (runs_pick_true rfl hk107 rfl) ?_
        refine RW.op1 rfl (runs_move rfl) ?_
        have hk112 := (show (!false) = true from rfl)
        refine RW.on_guard rfl rfl rfl rfl hk112 ?_
        refine RW.call rfl call10 rfl rfl (wakes09_spec hst hM) ?_
        rintro e w ⟨rfl, I272, hI272, hstn⟩
        clear hst
        have hst := hstn
        clear hstn
        replace hM := hM.mono hI272
        replace hv9 := hv9.mono hI272
        replace hpv := hpv.mono hI272
        replace hle := hle.trans hI272
        refine ⟨_, rfl, ?_⟩
        refine RW.op1 rfl (runs_pick_true rfl hk112 rfl) ?_
        refine RW.op1 rfl (runs_assign rfl) ?_
        refine RW.done ?_
        refine AQ.next ?_
        refine CW.ret ?_
        refine AQ.ret1 rfl rfl ?_
        exact ⟨rfl, _, hle, hst.drop1⟩
end Go.Proofs.YtfjghkmapccjhaaDoorX
