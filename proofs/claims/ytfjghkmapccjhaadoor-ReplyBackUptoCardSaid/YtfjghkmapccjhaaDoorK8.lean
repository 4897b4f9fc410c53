/- An answer that tells its length, cut off anywhere. -/
import Derived.Test.YtfjghkmapccjhaaDoorT
import Derived.Test.YtfjghkmapccjhaaDoorK7
namespace Go.Proofs.YtfjghkmapccjhaaDoorX
set_option linter.unusedVariables false
set_option linter.unusedSimpArgs false
open Go Go.RowKit Go.Proofs

def lenN : List UInt8 := [67, 111, 110, 116, 101, 110, 116, 45, 76, 101, 110, 103, 116, 104]
def lenRow (nm : List UInt8) (K : Nat) : List UInt8 × HL := (nm ++ 58 :: 32 :: Lib.decDigits K, (nm, Lib.decDigits K))
def cutsRows (K : Nat) : List (List UInt8 × HL) := [etagRow, lenRow lenN K]
theorem cutsRows_ok (K : Nat) (hK : K < 1000000) : ∀ x ∈ cutsRows K, GoodR x := by
  intro x hx
  simp only [cutsRows, List.mem_cons, List.not_mem_nil, or_false] at hx
  rcases hx with rfl | rfl
  · exact etagRow_ok
  · exact len_row (by decide) (by decide) K hK
def headL (n K : Nat) : List UInt8 := firstL n ++ 13 :: 10 :: (rowsP (cutsRows K) ++ [13, 10])
theorem headL_text (n K : Nat) (b : List UInt8) : headL n K ++ b = firstL n ++ 13 :: 10 :: rowsT (cutsRows K) b := by
  rw [rowsT_eq]
  unfold headL
  simp
def cutsMid : List UInt8 := [32, 45, 13, 10, 101, 116, 97, 103, 58, 32, 120, 13, 10, 67, 111, 110, 116, 101, 110, 116, 45, 76, 101, 110, 103, 116, 104, 58, 32]
theorem headL_eq (n K : Nat) : headL n K = httpL ++ Lib.decDigits n ++ cutsMid ++ Lib.decDigits K ++ [13, 10, 13, 10] := by
  unfold headL firstL rowsP cutsRows lenRow etagRow lenN cutsMid
  simp
theorem told_cuts (K : Nat) : toldL ((cutsRows K).map (·.2)) = [Lib.decDigits K] := by
  show toldL [(etagRow).2, (lenN, Lib.decDigits K)] = _
  rw [toldL_cons, toldL_cons, if_neg (by decide), if_pos (show isCL lenN = true by decide)]
  rfl
/-- Ahead of the body: none. -/
theorem cuts_none {n K : Nat} (hK : K < 1000000) (b : List UInt8) {c : Nat} (hc : c < (headL n K).length) : parseL ((headL n K ++ b).take c) = none := by
  rw [List.take_append_of_le_length (by omega)]
  refine parse_ahead (n := n) (cutsRows K) _ ((headL n K).drop c) (cutsRows_ok K hK) ?_ ?_
  · rw [List.take_append_drop, ← headL_text, List.append_nil]
  · intro h
    have := congrArg List.length h
    rw [List.length_drop] at this
    simp at this
    omega
/-- In it: cut. -/
theorem cuts_some {n K : Nat} (h1 : 100 ≤ n) (h2 : n ≤ 599) (hK : K < 1000000) (b : List UInt8) (hb : b.length = K) {c : Nat} (hc : (headL n K).length ≤ c) :
    parseL ((headL n K ++ b).take c) = some ⟨n, (cutsRows K).map (·.2), b.take (c - (headL n K).length), decide ((b.take (c - (headL n K).length)).length < K)⟩ := by
  rw [List.take_append, List.take_of_length_le hc, headL_text, parse_rows h1 h2 (cutsRows K) _ (cutsRows_ok K hK), if_pos (show (cutsRows K).length ≤ 8 from (show 2 ≤ 8 by decide)), told_cuts, body_len K hK]
  rw [List.take_of_length_le (l := List.take _ b) (by rw [List.length_take]; omega)]
set_option maxRecDepth 100000 in
set_option maxHeartbeats 4000000 in
theorem rcuts_spec {w0 w : World} {I : Imm} {L : Own} (hst : St w0 w I L) (hM : MaxK I) (n0 cut0 : Int) (hn : i64ok n0) (hcu : i64ok cut0) {vb : Value} {bs : List UInt8} (hb : RdB I vb bs) :
    Calls Tryd.prog 4 #[.int .i64 n0, .int .i64 cut0, vb] w fun e w' => e = .returned (.bool true) ∧ ∃ I', I.le I' ∧ St w0 w' I' L := by
  refine enter Tryd.func4 rfl (N := 109) rfl rfl ?_
  simp only [List.zipIdx_cons, List.zipIdx_nil, List.map_cons, List.map_nil, Nat.zero_add, Nat.reduceAdd]
  have hle := Imm.le.refl I
  refine CW.seq ?_
  -- region 0
  refine CW.region ?_
  refine RW.op1 rfl (runs_assign rfl) ?_
  refine RW.done ?_
  refine AQ.next ?_
  refine CW.seq ?_
  -- region 1
  refine CW.region ?_
  refine RW.op1 rfl (runs_move rfl) ?_
  refine RW.call rfl call12 rfl rfl (cut_spec hst hb (n := 60) (by decide)) ?_
  rintro e w ⟨I1, vb6, hI1, rfl, hstn, hb6⟩
  clear hst
  have hst := hstn
  clear hstn
  replace hM := hM.mono hI1
  replace hle := hle.trans hI1
  refine ⟨_, rfl, ?_⟩
  refine RW.op1 rfl (RdB.string Tryd.underlying36 Tryd.underlying5 Tryd.underlying9 rfl hb6 hst) ?_
  obtain ⟨b, hbb⟩ : ∃ b, bs.take ((60 : Int)).toNat = b := ⟨_, rfl⟩
  rw [hbb]
  have hbl : b.length ≤ 60 := by rw [← hbb, List.length_take]; exact Nat.min_le_left _ _
  clear hb6 hbb
  obtain ⟨K, hK⟩ : ∃ K, b.length = K := ⟨_, rfl⟩
  have hKl := dd_le 5 K (by omega)
  refine RW.op1 rfl (runs_assign rfl) ?_
  refine RW.done ?_
  refine AQ.next ?_
  refine CW.seq ?_
  -- region 2
  refine CW.region ?_
  refine RW.op1 rfl (runs_assign rfl) ?_
  refine RW.done ?_
  refine AQ.next ?_
  refine CW.seq ?_
  refine CW.seq ?_
  -- region 3
  refine CW.region ?_
  refine RW.op1 rfl (runs_move rfl) ?_
  refine RW.op1 rfl (runs_lenS Tryd.underlying9 rfl) ?_
  rw [show ((strOf b).size : Nat) = K by rw [strOfZ, hK]]
  refine RW.op1 rfl (runs_assign rfl) ?_
  refine RW.done ?_
  refine AQ.next ?_
  refine CW.block ?_
  -- loop 1
  refine CW.loop (Nat × List UInt8 × Imm) (fun x w => I.le x.2.2 ∧ MaxK x.2.2 ∧ St w0 w x.2.2 L ∧ DigR K x.1 x.2.1) (fun x => [(0, .int .i64 n0), (1, .int .i64 cut0), (7, .string (strOf b)), (8, .string (strOf x.2.1)), (9, .int .i64 (x.1 : Int))]) (fun x => x.1 + if x.2.1 = [] then 1 else 0) ⟨(K, [], _), ⟨hle, hM, hst, .inl ⟨rfl, rfl⟩⟩, ⟨rfl, rfl, rfl, rfl, rfl, trivial⟩⟩ ?_
  clear hle hM
  rintro ⟨k, d, I2⟩ w ⟨hle, hM, hstn, hdr⟩
  dsimp only at hle hM hstn hdr ⊢
  clear hst
  have hst := hstn
  clear hstn
  obtain ⟨hdl, hkl⟩ := hdr.len (by omega)
  refine CW.seq ?_
  refine CW.seq ?_
  -- region 4
  refine CW.cut Unit (fun _ w => St w0 w I2 L) (fun _ => [(0, .int .i64 n0), (1, .int .i64 cut0), (7, .string (strOf b)), (8, .string (strOf d)), (9, .int .i64 (k : Int)), (24, .bool (decide (d = [] ∨ 0 < k)))]) ?_ ?_
  · -- region 4
    refine CW.region ?_
    refine RW.op1 rfl (runs_move rfl) ?_
    refine RW.op1 rfl (runs_eqS rfl rfl) ?_
    refine RW.op1 rfl (runs_move rfl) ?_
    refine RW.split (t := 21) rfl (fun hb21 => ?_) (fun hb21 => ?_)
    · have hb21p := hb21
      try simp only [decide_eq_true_eq, decide_eq_false_iff_not] at hb21p
      refine RW.off_guard rfl rfl rfl rfl hb21 ?_
      refine RW.off_guard rfl rfl rfl rfl hb21 ?_
      refine RW.op1 rfl (runs_pick_true rfl hb21 rfl) ?_
      refine RW.done ?_
      exact AQ.meet () hst ⟨rfl, rfl, rfl, rfl, rfl, boolN (by rw [emptyL] at *; have h9 := @strOf_nil d; simp_all <;> omega), trivial⟩
    · have hb21p := hb21
      try simp only [decide_eq_true_eq, decide_eq_false_iff_not] at hb21p
      refine RW.on_guard rfl rfl rfl rfl hb21 ?_
      refine RW.op1 rfl (runs_move rfl) ?_
      refine RW.on_guard rfl rfl rfl rfl hb21 ?_
      refine RW.op1 rfl (runs_gtr rfl rfl) ?_
      refine RW.op1 rfl (runs_pick_false rfl hb21 rfl) ?_
      refine RW.done ?_
      exact AQ.meet () hst ⟨rfl, rfl, rfl, rfl, rfl, boolN (by rw [emptyL] at *; have h9 := @strOf_nil d; simp_all <;> omega), trivial⟩
  · rintro _ w hstn
    clear hst
    have hst := hstn
    clear hstn
    refine AQ.next ?_
    refine CW.cond rfl (fun hc24 => ?_) (fun hc24 => ?_)
    · have hcb24 := hc24
      try simp only [decide_eq_true_eq, decide_eq_false_iff_not] at hc24
      refine CW.skip ?_
      refine AQ.next ?_
      refine CW.seq ?_
      refine CW.block ?_
      -- region 6
      refine CW.region ?_
      refine RW.op1 rfl (runs_move rfl) ?_
      refine RW.op1 rfl (runs_rem rfl rfl (by decide)) ?_
      rw [show ((k : Nat) : Int).tmod 10 = ((k % 10 : Nat) : Int) from rfl]
      refine RW.op1 rfl (runs_add rfl rfl (by omega)) ?_
      refine RW.op1 rfl (runs_convB (by rw [Tryd.underlying3]; rfl) Tryd.underlying5 rfl) ?_
      refine RW.opE rfl (runs_litB (bs := [dg (k % 10)]) rfl Tryd.underlying36 ti5 (by decide) rfl rfl rfl hst) ?_
      rintro u2 w ⟨I2, hI2, hstn, h2⟩
      clear hst
      have hst := hstn
      clear hstn
      replace hM := hM.mono hI2
      replace hle := hle.trans hI2
      have hC : RdB _ u2 [dg (k % 10)] := h2
      refine RW.op1 rfl (RdB.string Tryd.underlying36 Tryd.underlying5 Tryd.underlying9 rfl hC hst) ?_
      refine RW.op1 rfl (runs_move rfl) ?_
      refine RW.op1 rfl (runs_addS rfl rfl (by rw [strOfZ, strOfZ]; simp only [List.length_cons, List.length_nil]; omega)) ?_
      rw [strOf_append, List.singleton_append]
      refine RW.op1 rfl (runs_assign rfl) ?_
      refine RW.done ?_
      refine AQ.block_normal ?_
      refine AQ.next ?_
      -- region 5
      refine CW.region ?_
      refine RW.op1 rfl (runs_move rfl) ?_
      refine RW.op1 rfl (runs_quo rfl rfl (by decide)) ?_
      rw [show IntKind.i64.wrap (((k : Nat) : Int).tdiv 10) = ((k / 10 : Nat) : Int) from by rw [show ((k : Nat) : Int).tdiv 10 = ((k / 10 : Nat) : Int) from rfl, wrap_i64 (n := ((k / 10 : Nat) : Int)) (by omega)]]
      refine RW.op1 rfl (runs_assign rfl) ?_
      refine RW.done ?_
      have hor : d = [] ∨ 0 < k := by simpa using hc24
      exact AQ.again (x := (k, d, I2)) (k / 10, dg (k % 10) :: d, _) ⟨hle, hM, hst, hdr.step hor⟩ ⟨rfl, rfl, rfl, rfl, rfl, trivial⟩ (by
        dsimp only
        rw [if_neg (by simp)]
        rcases hor with rfl | h
        · rw [if_pos rfl]; omega
        · omega)
    · have hcb24 := hc24
      try simp only [decide_eq_true_eq, decide_eq_false_iff_not] at hc24
      refine CW.exit ?_
      refine AQ.past_exit ?_
      refine AQ.past_exit ?_
      refine AQ.block_hit ?_
      refine AQ.next ?_
      refine CW.seq ?_
      -- region 7
      refine CW.region ?_
      have hdd := hdr.done (by simpa using hc24)
      subst hdd
      refine RW.opE rfl (runs_lit1R Tryd.underlying24 ti9 (by decide) rfl rfl rfl (by simp [Value.oneCell']) hst) ?_
      rintro u3 w ⟨I3, hI3, hstn, h3⟩
      clear hst
      have hst := hstn
      clear hstn
      replace hM := hM.mono hI3
      replace hle := hle.trans hI3
      have hA : RdS _ u3 [⟨#[50, 48, 48]⟩, ⟨#[50, 48, 54]⟩, ⟨#[53, 48, 51]⟩] := h3
      refine RW.op1 rfl (runs_move rfl) ?_
      refine RW.call rfl call8 rfl rfl (within_spec hst (v := n0) (n := 3) (hn) (by unfold i64ok; decide)) ?_
      rintro e w ⟨rfl, hstn⟩
      clear hst
      have hst := hstn
      clear hstn
      have hw0 := (within_range n0 3).1
      have hw1 := (within_range n0 3).2 (by decide)
      generalize within n0 3 = j at hw0 hw1 ⊢
      refine ⟨_, rfl, ?_⟩
      refine RW.op1 rfl (RdL.indexAddr Tryd.underlying24 ti9 (by decide) rfl rfl hA (by show 0 ≤ j ∧ j < 3; omega)) ?_
      refine RW.op1 rfl (runs_load1 sc9 rfl (hst.cell_imm (RdS.at hA (by omega) (by show j < 3; omega)))) ?_
      obtain ⟨nn, hnn, hn1, hn2⟩ : ∃ nn, sat [⟨#[50, 48, 48]⟩, ⟨#[50, 48, 54]⟩, ⟨#[53, 48, 51]⟩] j = strOf (Lib.decDigits nn) ∧ 100 ≤ nn ∧ nn ≤ 599 := by
        rcases (show j = 0 ∨ j = 1 ∨ j = 2 by omega) with rfl | rfl | rfl
        · exact ⟨200, by rw [dd200]; rfl, by decide, by decide⟩
        · exact ⟨206, by rw [dd206]; rfl, by decide, by decide⟩
        · exact ⟨503, by rw [dd503]; rfl, by decide, by decide⟩
      rw [hnn]
      have hnl := dd_three hn1 (by omega)
      refine RW.op1 rfl (runs_addS rfl rfl (by simp only [ByteArray.size_append, strOfZ, hnl, show (ByteArray.mk #[72, 84, 84, 80, 47, 49, 46, 49, 32]).size = 9 from rfl, show (ByteArray.mk #[32, 45, 13, 10, 101, 116, 97, 103, 58, 32, 120, 13, 10, 67, 111, 110, 116, 101, 110, 116, 45, 76, 101, 110, 103, 116, 104, 58, 32]).size = 29 from rfl, show (ByteArray.mk #[13, 10, 13, 10]).size = 4 from rfl]; omega)) ?_
      refine RW.op1 rfl (runs_addS rfl rfl (by simp only [ByteArray.size_append, strOfZ, hnl, show (ByteArray.mk #[72, 84, 84, 80, 47, 49, 46, 49, 32]).size = 9 from rfl, show (ByteArray.mk #[32, 45, 13, 10, 101, 116, 97, 103, 58, 32, 120, 13, 10, 67, 111, 110, 116, 101, 110, 116, 45, 76, 101, 110, 103, 116, 104, 58, 32]).size = 29 from rfl, show (ByteArray.mk #[13, 10, 13, 10]).size = 4 from rfl]; omega)) ?_
      refine RW.op1 rfl (runs_move rfl) ?_
      refine RW.op1 rfl (runs_addS rfl rfl (by simp only [ByteArray.size_append, strOfZ, hnl, show (ByteArray.mk #[72, 84, 84, 80, 47, 49, 46, 49, 32]).size = 9 from rfl, show (ByteArray.mk #[32, 45, 13, 10, 101, 116, 97, 103, 58, 32, 120, 13, 10, 67, 111, 110, 116, 101, 110, 116, 45, 76, 101, 110, 103, 116, 104, 58, 32]).size = 29 from rfl, show (ByteArray.mk #[13, 10, 13, 10]).size = 4 from rfl]; omega)) ?_
      refine RW.op1 rfl (runs_addS rfl rfl (by simp only [ByteArray.size_append, strOfZ, hnl, show (ByteArray.mk #[72, 84, 84, 80, 47, 49, 46, 49, 32]).size = 9 from rfl, show (ByteArray.mk #[32, 45, 13, 10, 101, 116, 97, 103, 58, 32, 120, 13, 10, 67, 111, 110, 116, 101, 110, 116, 45, 76, 101, 110, 103, 116, 104, 58, 32]).size = 29 from rfl, show (ByteArray.mk #[13, 10, 13, 10]).size = 4 from rfl]; omega)) ?_
      refine RW.op1 rfl (runs_assign rfl) ?_
      obtain ⟨H, hH⟩ : ∃ H, (ByteArray.mk #[72, 84, 84, 80, 47, 49, 46, 49, 32]) ++ strOf (Lib.decDigits nn) ++ (ByteArray.mk #[32, 45, 13, 10, 101, 116, 97, 103, 58, 32, 120, 13, 10, 67, 111, 110, 116, 101, 110, 116, 45, 76, 101, 110, 103, 116, 104, 58, 32]) ++ strOf (Lib.decDigits K) ++ (ByteArray.mk #[13, 10, 13, 10]) = H := ⟨_, rfl⟩
      rw [hH]
      have hHl : H.toList = headL nn K := by
        rw [← hH, toList_append', toList_append', toList_append', toList_append', strOf_toList, strOf_toList, headL_eq]
        simp only [ByteArray.toList_eq]
        rfl
      have hHz := size_toList H
      rw [hHl] at hHz
      have hHz2 : (headL nn K).length ≤ 100 := by rw [headL_eq]; simp only [List.length_append, hnl]; show 9 + 3 + 29 + _ + 4 ≤ _; omega
      clear hH
      refine RW.done ?_
      refine AQ.next ?_
      refine CW.seq ?_
      -- region 8
      refine CW.region ?_
      refine RW.op1 rfl (runs_move rfl) ?_
      refine RW.op1 rfl (runs_move rfl) ?_
      refine RW.op1 rfl (runs_addS rfl rfl (by rw [strOfZ]; omega)) ?_
      obtain ⟨Tx, hT⟩ : ∃ Tx, H ++ strOf b = Tx := ⟨_, rfl⟩
      rw [hT]
      have hTl : Tx.toList = headL nn K ++ b := by rw [← hT, toList_append', hHl, strOf_toList]
      have hTz := size_toList Tx
      rw [hTl, List.length_append] at hTz
      refine RW.op1 rfl (runs_assign rfl) ?_
      refine RW.done ?_
      refine AQ.next ?_
      refine CW.seq ?_
      -- region 9
      refine CW.region ?_
      refine RW.op1 rfl (runs_move rfl) ?_
      refine RW.op1 rfl (runs_move rfl) ?_
      refine RW.op1 rfl (runs_lenS Tryd.underlying9 rfl) ?_
      refine RW.op1 rfl (runs_add rfl rfl (by omega)) ?_
      refine RW.call rfl call8 rfl rfl (within_spec hst (v := cut0) (n := ((Tx.size : Nat) : Int) + 1) (hcu) (by unfold i64ok; omega)) ?_
      rintro e w ⟨rfl, hstn⟩
      clear hst
      have hst := hstn
      clear hstn
      have hc0 := (within_range cut0 (((Tx.size : Nat) : Int) + 1)).1
      have hc1 := (within_range cut0 (((Tx.size : Nat) : Int) + 1)).2 (by omega)
      obtain ⟨c, hc⟩ : ∃ c : Nat, within cut0 (((Tx.size : Nat) : Int) + 1) = (c : Int) := ⟨(within cut0 (((Tx.size : Nat) : Int) + 1)).toNat, by omega⟩
      rw [hc] at hc1 ⊢
      clear hc0
      refine ⟨_, rfl, ?_⟩
      refine RW.op1 rfl (runs_assign rfl) ?_
      refine RW.done ?_
      refine AQ.next ?_
      refine CW.seq ?_
      -- region 10
      refine CW.region ?_
      refine RW.op1 rfl (runs_move rfl) ?_
      refine RW.op1 rfl (runs_move rfl) ?_
      refine RW.op1 rfl (runs_sliceS_h Tryd.underlying9 rfl rfl (by omega)) ?_
      rw [show Tx.extract 0 ((c : Int)).toNat = strOf ((headL nn K ++ b).take c) from by rw [extractE, hTl]; rfl]
      refine RW.call rfl call9 rfl rfl (parse2_spec hst hM (strOf ((headL nn K ++ b).take c)) (by rw [strOfZ, List.length_take]; omega)) ?_
      rintro e w ⟨I6, A, cap, hI6, rfl, hstn, hvh, _, _, _⟩
      clear hst
      have hst := hstn
      clear hstn
      rw [strOf_toList] at *
      obtain ⟨R, hR⟩ : ∃ R, outR ((headL nn K ++ b).take c) = R := ⟨_, rfl⟩
      obtain ⟨E, hE⟩ : ∃ E, errR ((headL nn K ++ b).take c) = E := ⟨_, rfl⟩
      rw [hR] at hvh
      rw [hR, hE]
      replace hM := hM.mono hI6
      replace h3 := h3.mono hI6
      replace hA := hA.mono hI6
      replace hle := hle.trans hI6
      refine ⟨_, rfl, ?_⟩
      refine RW.op1 rfl (runs_move rfl) ?_
      refine RW.op1 rfl (runs_extract rfl rfl) ?_
      refine RW.op1 rfl (runs_extract rfl rfl) ?_
      refine RW.opE rfl (runs_alloc ti29 hst) ?_
      rintro _ w ⟨b7, rfl, hstn⟩
      clear hst
      have hst := hstn
      clear hstn
      first
        | refine RW.opE0 (runs_storeW ti29 rfl rfl hst (k := 0) rfl rfl rfl (NoFz.zero _) rfl) ?_
        | refine RW.opE0 (runs_storeP ti29 rfl rfl hst (k := 0) rfl rfl rfl (NoFz.zero _) rfl) ?_
        | refine RW.opE0 (runs_storeW ti29 rfl rfl hst (k := 1) rfl rfl rfl (NoFz.zero _) rfl) ?_
        | refine RW.opE0 (runs_storeP ti29 rfl rfl hst (k := 1) rfl rfl rfl (NoFz.zero _) rfl) ?_
        | refine RW.opE0 (runs_storeW ti29 rfl rfl hst (k := 2) rfl rfl rfl (NoFz.zero _) rfl) ?_
        | refine RW.opE0 (runs_storeP ti29 rfl rfl hst (k := 2) rfl rfl rfl (NoFz.zero _) rfl) ?_
      rintro w hstn
      clear hst
      have hst := hstn
      clear hstn
      try simp only [List.set_cons_zero, List.set_cons_succ] at hst
      refine RW.op1 rfl (runs_assign rfl) ?_
      refine RW.done ?_
      refine AQ.next ?_
      refine CW.seq ?_
      refine CW.seq ?_
      -- region 11
      refine CW.region ?_
      refine RW.op1 rfl (runs_move rfl) ?_
      refine RW.op1 rfl (runs_move rfl) ?_
      refine RW.op1 rfl (runs_lenS Tryd.underlying9 rfl) ?_
      refine RW.op1 rfl (runs_lss rfl rfl) ?_
      refine RW.done ?_
      refine AQ.next ?_
      refine CW.cond rfl (fun hc63 => ?_) (fun hc63 => ?_)
      · have hcb63 := hc63
        try simp only [decide_eq_true_eq, decide_eq_false_iff_not] at hc63
        obtain ⟨g1, g2⟩ := out_none (cuts_none (n := nn) (K := K) (by omega) b (c := c) (by omega))
        rw [g1] at hR
        rw [g2] at hE
        subst hR hE
        refine CW.seq ?_
        -- region 12
        refine CW.region ?_
        refine RW.op1 rfl (runs_move rfl) ?_
        refine RW.op1 rfl (runs_eqI rfl rfl) ?_
        refine RW.op1 rfl (runs_move rfl) ?_
        have hk66 := (show decide ((2 : Int) = 2) = true by decide)
        refine RW.on_guard rfl rfl rfl rfl hk66 ?_
        first
          | refine RW.op1 rfl (runs_fieldAddr0 rfl Tryd.underlying29 rfl ti3 (by decide)) ?_
          | refine RW.op1 rfl (runs_fieldAddr rfl Tryd.underlying29 rfl ti3 (by decide)) ?_
        refine RW.on_guard rfl rfl rfl rfl hk66 ?_
        first
          | refine RW.op1 rfl (runs_load1 sc3 rfl (hst.cell_own (k := 0) rfl rfl)) ?_
          | refine RW.op1 rfl (runs_load1 sc3 rfl (hst.cell_own (k := 1) rfl rfl)) ?_
          | refine RW.op1 rfl (runs_load1 sc3 rfl (hst.cell_own (k := 2) rfl rfl)) ?_
        refine RW.on_guard rfl rfl rfl rfl hk66 ?_
        refine RW.op1 rfl (runs_eqI rfl rfl) ?_
        refine RW.op1 rfl (runs_pick_true rfl hk66 rfl) ?_
        refine RW.op1 rfl (runs_move rfl) ?_
        have hk71 := (show decide ((0 : Int) = 0) = true by decide)
        refine RW.on_guard rfl rfl rfl rfl hk71 ?_
        first
          | refine RW.op1 rfl (runs_fieldAddr0 rfl Tryd.underlying29 rfl ti9 (by decide)) ?_
          | refine RW.op1 rfl (runs_fieldAddr rfl Tryd.underlying29 rfl ti9 (by decide)) ?_
        refine RW.on_guard rfl rfl rfl rfl hk71 ?_
        first
          | refine RW.op1 rfl (runs_load1 sc9 rfl (hst.cell_own (k := 0) rfl rfl)) ?_
          | refine RW.op1 rfl (runs_load1 sc9 rfl (hst.cell_own (k := 1) rfl rfl)) ?_
          | refine RW.op1 rfl (runs_load1 sc9 rfl (hst.cell_own (k := 2) rfl rfl)) ?_
        refine RW.on_guard rfl rfl rfl rfl hk71 ?_
        refine RW.op1 rfl (runs_eqS rfl rfl) ?_
        refine RW.op1 rfl (runs_pick_true rfl hk71 rfl) ?_
        refine RW.op1 rfl (runs_move rfl) ?_
        have hk76 := (show ((strOf []).toList == (ByteArray.mk #[]).toList) = true by rw [strOf_toList, emptyL]; rfl)
        refine RW.on_guard rfl rfl rfl rfl hk76 ?_
        refine RW.call rfl call10 rfl rfl (wakes09_spec hst hM) ?_
        rintro e w ⟨rfl, I9, hI9, hstn⟩
        clear hst
        have hst := hstn
        clear hstn
        replace hM := hM.mono hI9
        replace h3 := h3.mono hI9
        replace hA := hA.mono hI9
        replace hle := hle.trans hI9
        refine ⟨_, rfl, ?_⟩
        refine RW.op1 rfl (runs_pick_true rfl hk76 rfl) ?_
        refine RW.op1 rfl (runs_assign rfl) ?_
        refine RW.done ?_
        refine AQ.next ?_
        refine CW.ret ?_
        refine AQ.past_ret ?_
        refine AQ.ret1 rfl rfl ?_
        exact ⟨rfl, _, hle, hst.drop1⟩
      · have hcb63 := hc63
        try simp only [decide_eq_true_eq, decide_eq_false_iff_not] at hc63
        obtain ⟨g1, g2⟩ := out_some (cuts_some (n := nn) (K := K) hn1 hn2 (by omega) b hK (c := c) (by omega))
        rw [g1] at hR
        rw [g2] at hE
        subst hR hE
        refine CW.skip ?_
        refine AQ.next ?_
        refine CW.seq ?_
        -- region 13
        refine CW.drawSt hst (.q 0 (.q 1 (.q 2 (.q 3 (.q 4 (.q 5 (.q 6 (.q 7 (.q 8 (.q 9 (.q 10 (.q 11 (.q 12 (.q 13 (.q 14 (.q 15 (.q 16 (.q 17 (.q 18 (.q 19 (.q 20 (.q 21 (.q 22 (.q 23 (.q 24 (.q 25 (.q 26 (.q 27 (.l 28 (.q 29 (.q 30 .nil))))))))))))))))))))))))))))))) follows (by kernel_rfl) (fun w hst => ?_)
        refine DRW.q rfl rfl (fun w' hF => runs_move rfl) ?_
        refine DRW.q rfl rfl (fun w' hF => runs_eqI rfl rfl) ?_
        refine DRW.q rfl rfl (fun w' hF => runs_move rfl) ?_
        have hk81 := (show decide ((0 : Int) = 0) = true by decide)
        first
          | refine DRW.q_on rfl rfl rfl rfl hk81 rfl (fun w' hF => runs_fieldAddr0 rfl Tryd.underlying29 rfl ti9 (by decide)) ?_
          | refine DRW.q_on rfl rfl rfl rfl hk81 rfl (fun w' hF => runs_fieldAddr rfl Tryd.underlying29 rfl ti9 (by decide)) ?_
        first
          | refine DRW.q_on rfl rfl rfl rfl hk81 rfl (FSt.load1_own sc9 rfl (k := 0) rfl rfl) ?_
          | refine DRW.q_on rfl rfl rfl rfl hk81 rfl (FSt.load1_own sc9 rfl (k := 1) rfl rfl) ?_
          | refine DRW.q_on rfl rfl rfl rfl hk81 rfl (FSt.load1_own sc9 rfl (k := 2) rfl rfl) ?_
        refine DRW.q_on rfl rfl rfl rfl hk81 rfl (fun w' hF => runs_move rfl) ?_
        refine DRW.q_on rfl rfl rfl rfl hk81 rfl (fun w' hF => runs_move rfl) ?_
        refine DRW.q_on rfl rfl rfl rfl hk81 rfl (fun w' hF => runs_lenS Tryd.underlying9 rfl) ?_
        refine DRW.q_on rfl rfl rfl rfl hk81 rfl (fun w' hF => runs_move rfl) ?_
        refine DRW.q_on rfl rfl rfl rfl hk81 rfl (fun w' hF => runs_sliceS_lh Tryd.underlying9 rfl rfl rfl (by omega)) ?_
        rw [show Tx.extract (((H.size : Nat) : Int)).toNat ((c : Int)).toNat = strOf (b.take (c - (headL nn K).length)) from by
          rw [extractE, hTl, show (((H.size : Nat) : Int)).toNat = (headL nn K).length by omega, show ((c : Int)).toNat = c from rfl, List.drop_left]]
        refine DRW.q_on rfl rfl rfl rfl hk81 rfl (fun w' hF => runs_eqS rfl rfl) ?_
        refine DRW.q rfl rfl (fun w' hF => runs_pick_true rfl hk81 rfl) ?_
        refine DRW.q rfl rfl (fun w' hF => runs_move rfl) ?_
        have hk91 := (show ((strOf (b.take (c - (headL nn K).length))).toList == (strOf (b.take (c - (headL nn K).length))).toList) = true by simp)
        first
          | refine DRW.q_on rfl rfl rfl rfl hk91 rfl (fun w' hF => runs_fieldAddr0 rfl Tryd.underlying29 rfl ti4 (by decide)) ?_
          | refine DRW.q_on rfl rfl rfl rfl hk91 rfl (fun w' hF => runs_fieldAddr rfl Tryd.underlying29 rfl ti4 (by decide)) ?_
        first
          | refine DRW.q_on rfl rfl rfl rfl hk91 rfl (FSt.load1_own sc4 rfl (k := 0) rfl rfl) ?_
          | refine DRW.q_on rfl rfl rfl rfl hk91 rfl (FSt.load1_own sc4 rfl (k := 1) rfl rfl) ?_
          | refine DRW.q_on rfl rfl rfl rfl hk91 rfl (FSt.load1_own sc4 rfl (k := 2) rfl rfl) ?_
        refine DRW.q_on rfl rfl rfl rfl hk91 rfl (fun w' hF => runs_move rfl) ?_
        refine DRW.q_on rfl rfl rfl rfl hk91 rfl (fun w' hF => runs_move rfl) ?_
        refine DRW.q_on rfl rfl rfl rfl hk91 rfl (fun w' hF => runs_lenS Tryd.underlying9 rfl) ?_
        refine DRW.q_on rfl rfl rfl rfl hk91 rfl (fun w' hF => runs_lss rfl rfl) ?_
        refine DRW.q_on rfl rfl rfl rfl hk91 rfl (fun w' hF => runs_eqB Tryd.underlying4 rfl rfl) ?_
        refine DRW.q rfl rfl (fun w' hF => runs_pick_true rfl hk91 rfl) ?_
        refine DRW.q rfl rfl (fun w' hF => runs_move rfl) ?_
        have hk100 := (show (decide ((b.take (c - (headL nn K).length)).length < K) == decide ((c : Int) < ((Tx.size : Nat) : Int))) = true by rw [List.length_take]; simp only [beq_iff_eq, decide_eq_decide]; omega)
        first
          | refine DRW.q_on rfl rfl rfl rfl hk100 rfl (fun w' hF => runs_fieldAddr0 rfl Tryd.underlying29 rfl ti23 (by decide)) ?_
          | refine DRW.q_on rfl rfl rfl rfl hk100 rfl (fun w' hF => runs_fieldAddr rfl Tryd.underlying29 rfl ti23 (by decide)) ?_
        first
          | refine DRW.q_on rfl rfl rfl rfl hk100 rfl (FSt.load1_own sc23 rfl (k := 0) rfl rfl) ?_
          | refine DRW.q_on rfl rfl rfl rfl hk100 rfl (FSt.load1_own sc23 rfl (k := 1) rfl rfl) ?_
          | refine DRW.q_on rfl rfl rfl rfl hk100 rfl (FSt.load1_own sc23 rfl (k := 2) rfl rfl) ?_
        refine DRW.q_on rfl rfl rfl rfl hk100 rfl (fun w' hF => runs_lenL Tryd.underlying23 rfl) ?_
        refine DRW.q_on rfl rfl rfl rfl hk100 rfl (fun w' hF => runs_eqI rfl rfl) ?_
        refine DRW.q rfl rfl (fun w' hF => runs_pick_true rfl hk100 rfl) ?_
        refine DRW.q rfl rfl (fun w' hF => runs_move rfl) ?_
        have hk106 := (show decide (((((cutsRows K).map (·.2)).length : Nat) : Int) = 2) = true by rfl)
        refine DRW.call_on rfl rfl rfl rfl hk106 rfl call10 rfl rfl (wakes09_spec hst hM) ?_
        rintro e w ⟨rfl, I10, hI10, hstn⟩
        clear hst
        have hst := hstn
        clear hstn
        replace hM := hM.mono hI10
        replace h3 := h3.mono hI10
        replace hA := hA.mono hI10
        replace hle := hle.trans hI10
        refine ⟨_, rfl, FSt.of hst hI10 (by first | exact (List.sublist_cons_self _ _).trans (List.sublist_append_right _ _) | exact List.Sublist.refl _ | exact List.sublist_cons_self _ _ | exact List.sublist_append_right _ _ | exact (List.sublist_cons_self _ _).trans (List.sublist_cons_self _ _) | exact (List.sublist_append_right _ _).trans (List.sublist_cons_self _ _) | simp), ?_⟩
        refine DRW.q rfl rfl (fun w' hF => runs_pick_true rfl hk106 rfl) ?_
        refine DRW.q rfl rfl (fun w' hF => runs_assign rfl) ?_
        refine DRW.done ?_
        refine AQ.next ?_
        refine CW.ret ?_
        refine AQ.ret1 rfl rfl ?_
        exact ⟨rfl, _, hle, hst.drop1⟩
end Go.Proofs.YtfjghkmapccjhaaDoorX
