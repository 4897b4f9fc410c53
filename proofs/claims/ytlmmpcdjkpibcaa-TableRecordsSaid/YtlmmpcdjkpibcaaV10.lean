/- Records by hand; what is none. -/
import Derived.Test.YtlmmpcdjkpibcaaT
import Derived.Test.YtlmmpcdjkpibcaaV9
namespace Go.Proofs.YtlmmpcdjkpibcaaX
set_option linter.unusedVariables false
set_option linter.unusedSimpArgs false
open Go Go.RowKit Go.Proofs

def dropS : ByteArray := ⟨#[100, 114, 111, 112]⟩
def nextS : ByteArray := ⟨#[110, 101, 120, 116]⟩
def gb : AV → Bool
  | .num n => decide (-9223372036854775808 ≤ n ∧ n ≤ 9223372036854775807)
  | .txt b => decide (b.size ≤ 255)
  | .flg _ => true
  | .oth _ => false
theorem gb_good {a : AV} (h : gb a = true) : a.good 255 false := by
  cases a with
  | num n => exact (show i64ok n by have h2 := h; simp [gb] at h2; exact h2)
  | txt b => exact (by simpa [gb] using h : b.size ≤ 255)
  | flg t => trivial
  | oth v => cases h
theorem all_good {av : List AV} (h : av.all gb = true) : ∀ a ∈ av, a.good 255 false := fun a ha => gb_good (List.all_eq_true.1 h a ha)
theorem wordOf_nil : wordOf [] = [] := by unfold wordOf; rw [atA_out (by decide)]; exact litLB []
theorem wordOf_num (n : Int) (r : List AV) : wordOf (.num n :: r) = [] := by
  unfold wordOf
  rw [atA_in (by simp)]
  exact litLB []
theorem wordOf_txt (l : List UInt8) (r : List AV) : wordOf (.txt ⟨l.toArray⟩ :: r) = l := by
  unfold wordOf
  rw [atA_in (by simp)]
  exact litLB l
theorem at_1 (a b : AV) (r : List AV) : atA (a :: b :: r) 1 = b := by
  rw [atA_in (by simp only [List.length_cons]; omega)]
  rfl
theorem at_1n (a : AV) : atA [a] 1 = .oth .nilIface := atA_out (by simp)
theorem Ap_no {b : List UInt8} {av : List AV} {rows rows' : List TRow} {next next' err : Int} (h : decA b = some av) (hw : wordOf av ≠ putL) (hn : ¬ (isNum (atA av 1) = true ∧ av.length = 2) ∨ (wordOf av ≠ dropL ∧ wordOf av ≠ nextL)) (ha : Ap b rows next err rows' next') : err = 2 ∧ rows' = rows ∧ next' = next := by
  unfold Ap at ha
  rw [h, Option.getD_some, if_neg hw] at ha
  by_cases h2 : isNum (atA av 1) = true ∧ av.length = 2
  · rw [if_pos h2] at ha
    rcases hn with h3 | ⟨h3, h4⟩
    · exact absurd h2 h3
    · rw [if_neg h3, if_neg h4] at ha
      exact ha
  · rw [if_neg h2] at ha
    exact ha
theorem Ap_none {b : List UInt8} {av : List AV} {rows rows' : List TRow} {next next' err : Int} (h : decA b = some av) (hw : wordOf av = putL) (hp : decIt (allB av) = none) (ha : Ap b rows next err rows' next') : err = 2 ∧ rows' = rows ∧ next' = next := by
  unfold Ap at ha
  rw [h, Option.getD_some, if_pos hw] at ha
  unfold putOk at ha
  rw [hp] at ha
  exact ha
theorem Ap_drop {b : List UInt8} {n : Int} {rows rows' : List TRow} {next next' err : Int} (h : decA b = some [.txt dropS, .num n]) (ha : Ap b rows next err rows' next') : err = 0 ∧ rows' = pdel rows n ∧ next' = next := by
  unfold Ap at ha
  rw [h, Option.getD_some, show wordOf [.txt dropS, .num n] = dropL from wordOf_txt dropL _, if_neg (by decide), at_1, if_pos ⟨rfl, rfl⟩, if_pos rfl] at ha
  exact ha
theorem Ap_next {b : List UInt8} {n : Int} {rows rows' : List TRow} {next next' err : Int} (h : decA b = some [.txt nextS, .num n]) (ha : Ap b rows next err rows' next') : err = 0 ∧ rows' = rows ∧ next' = (if n > next then n else next) := by
  unfold Ap at ha
  rw [h, Option.getD_some, show wordOf [.txt nextS, .num n] = nextL from wordOf_txt nextL _, if_neg (by decide), at_1, if_pos ⟨rfl, rfl⟩, if_neg (by decide), if_pos rfl] at ha
  exact ha
theorem decIt_nil : decIt [] = none := by
  have hb : readBad [] = true := by
    unfold readBad readH
    rw [rdH_bad _ _ _ (by
      unfold headBad
      rw [atA_out (av := []) (k := ((0 : Nat) : Int)) (by decide)]
      rfl)]
    show (headBad [] || _) = true
    unfold headBad
    rw [atA_out (av := []) (k := ((0 : Nat) : Int)) (by decide)]
    rfl
  unfold decIt
  rw [decA_nil]
  dsimp only
  rw [if_neg (by rw [hb]; intro h; cases h.1)]
theorem decIt_x : decIt [120] = none := by
  have h : decA [120] = none := by
    have h0 : bat [120] 0 = 120 := rfl
    exact decA_none (by decide) (dec1_no (by rw [h0]; decide) (by rw [h0]; decide) (by rw [h0]; decide))
  unfold decIt
  rw [h]
theorem txtL_num (n : Int) : txtL (.num n) = [] := by unfold txtL txtOf; exact litLB []
theorem txtL_txt (l : List UInt8) : txtL (.txt ⟨l.toArray⟩) = l := litLB l
def recsL : List (List AV) := [[], [.txt ⟨#[112, 117, 116]⟩], [.txt ⟨#[112, 117, 116]⟩, .num 1], [.txt ⟨#[112, 117, 116]⟩, .txt ⟨#[120]⟩], [.txt ⟨#[100, 114, 111, 112]⟩], [.txt ⟨#[100, 114, 111, 112]⟩, .txt ⟨#[49]⟩], [.txt ⟨#[100, 114, 111, 112]⟩, .num 1, .num 2], [.txt ⟨#[110, 101, 120, 116]⟩], [.txt ⟨#[110, 101, 120, 116]⟩, .flg true], [.txt ⟨#[119, 104, 97, 116]⟩, .num 1], [.num 1, .txt ⟨#[100, 114, 111, 112]⟩], [.txt ⟨#[68, 114, 111, 112]⟩, .num 1]]
theorem recs_gb : ∀ k, k < 12 → (recsL.getD k []).all gb = true := by decide
theorem recs_ok : ∀ k, k < 12 → encOk (recsL.getD k []) = true := by decide
theorem recs_len : ∀ k, k < 12 → (recsL.getD k []).length ≤ 3 := by decide
theorem recs_err (k : Nat) (hk : k < 12) {rows rows' : List TRow} {next next' err : Int} (ha : Ap (encA (recsL.getD k [])) rows next err rows' next') : err = 2 ∧ rows' = rows ∧ next' = next := by
  have hd := decA_encA (Nat.le_refl 255) (all_good (recs_gb k hk))
  match k, hk with
  | 0, _ => exact Ap_no hd (by rw [show wordOf (recsL.getD 0 []) = [] from wordOf_nil]; decide) (.inl (fun h => absurd h.2 (by decide))) ha
  | 1, _ => exact Ap_none hd (wordOf_txt putL _) decIt_nil ha
  | 2, _ => exact Ap_none hd (wordOf_txt putL _) (by rw [show allB (recsL.getD 2 []) = [] by show (txtL (.num 1)) ++ [] = []; rw [txtL_num]; rfl]; exact decIt_nil) ha
  | 3, _ => exact Ap_none hd (wordOf_txt putL _) (by rw [show allB (recsL.getD 3 []) = [120] by show (txtL (.txt ⟨#[120]⟩)) ++ [] = [120]; rw [show txtL (.txt ⟨#[120]⟩) = [120] from txtL_txt [120]]; rfl]; exact decIt_x) ha
  | 4, _ => exact Ap_no hd (by rw [show wordOf (recsL.getD 4 []) = dropL from wordOf_txt dropL _]; decide) (.inl (fun h => absurd h.2 (by decide))) ha
  | 5, _ => exact Ap_no hd (by rw [show wordOf (recsL.getD 5 []) = dropL from wordOf_txt dropL _]; decide) (.inl (fun h => by have h1 := h.1; rw [show atA (recsL.getD 5 []) 1 = .txt ⟨#[49]⟩ from at_1 _ _ _] at h1; cases h1)) ha
  | 6, _ => exact Ap_no hd (by rw [show wordOf (recsL.getD 6 []) = dropL from wordOf_txt dropL _]; decide) (.inl (fun h => absurd h.2 (by decide))) ha
  | 7, _ => exact Ap_no hd (by rw [show wordOf (recsL.getD 7 []) = nextL from wordOf_txt nextL _]; decide) (.inl (fun h => absurd h.2 (by decide))) ha
  | 8, _ => exact Ap_no hd (by rw [show wordOf (recsL.getD 8 []) = nextL from wordOf_txt nextL _]; decide) (.inl (fun h => by have h1 := h.1; rw [show atA (recsL.getD 8 []) 1 = .flg true from at_1 _ _ _] at h1; cases h1)) ha
  | 9, _ => exact Ap_no hd (by rw [show wordOf (recsL.getD 9 []) = [119, 104, 97, 116] from wordOf_txt [119, 104, 97, 116] _]; decide) (.inr (by rw [show wordOf (recsL.getD 9 []) = [119, 104, 97, 116] from wordOf_txt [119, 104, 97, 116] _]; decide)) ha
  | 10, _ => exact Ap_no hd (by rw [show wordOf (recsL.getD 10 []) = [] from wordOf_num 1 _]; decide) (.inl (fun h => by have h1 := h.1; rw [show atA (recsL.getD 10 []) 1 = .txt dropS from at_1 _ _ _] at h1; cases h1)) ha
  | 11, _ => exact Ap_no hd (by rw [show wordOf (recsL.getD 11 []) = [68, 114, 111, 112] from wordOf_txt [68, 114, 111, 112] _]; decide) (.inr (by rw [show wordOf (recsL.getD 11 []) = [68, 114, 111, 112] from wordOf_txt [68, 114, 111, 112] _]; decide)) ha
  | k + 12, h => omega
theorem two_good {t : ByteArray} (ht : t.size ≤ 255) {n : Int} (hn : i64ok n) : ∀ a ∈ [AV.txt t, AV.num n], a.good 255 false := by
  intro a ha
  simp only [List.mem_cons, List.not_mem_nil, or_false] at ha
  rcases ha with rfl | rfl
  · exact ht
  · exact hn
theorem two_ok {t : ByteArray} (ht : t.size ≤ 255) {n : Int} (hn : i64ok n) : encOk [AV.txt t, AV.num n] = true := good_encOk (two_good ht hn) (Nat.le_refl _)
set_option maxRecDepth 100000 in
set_option maxHeartbeats 1000000 in
theorem droprec_spec {w0 w : World} {I : Imm} {L : Own} (hst : St w0 w I L) {n : Int} (hn : i64ok n) :
    Calls Try.prog 15 #[.int .i64 n] w fun e w' => ∃ I' v', I.le I' ∧ e = .returned (.tuple #[v', .int .i64 0]) ∧ St w0 w' I' L ∧ RdB I' v' (encA [.txt dropS, .num n]) := by
  refine enter Try.func15 rfl (N := 11) rfl rfl ?_
  simp only [List.zipIdx_cons, List.zipIdx_nil, List.map_cons, List.map_nil, Nat.zero_add, Nat.reduceAdd]
  have hle := Imm.le.refl I
  refine CW.seq ?_
  -- region 0
  refine CW.region ?_
  refine RW.op1 rfl (runs_assign rfl) ?_
  refine RW.op1 rfl (runs_assign rfl) ?_
  refine RW.done ?_
  refine AQ.next ?_
  refine CW.seq ?_
  -- region 1
  refine CW.region ?_
  refine RW.op1 rfl (runs_makeIface con9 rfl) ?_
  refine RW.op1 rfl (runs_move rfl) ?_
  refine RW.op1 rfl (runs_makeIface con3 rfl) ?_
  refine RW.opE rfl (runs_lit1R (xs := ([.txt dropS, .num n] : List AV).map AV.v) Try.underlying50 ti20 (by decide) rfl rfl rfl (by simp [AV.v, Value.oneCell']) hst) ?_
  rintro u1 w ⟨I1, hI1, hstn, h1⟩
  clear hst
  have hst := hstn
  clear hstn
  replace hle := hle.trans hI1
  have hA : RdA _ u1 [.txt dropS, .num n] := h1
  refine RW.call rfl call16 rfl rfl (enc_spec hst hA (two_good (by decide) hn) (show 2 ≤ 100000000000 by decide)) ?_
  rintro e w ⟨J8, v8, hJ8, rfl, hstn, hv8⟩
  clear hst
  have hst := hstn
  clear hstn
  rw [two_ok (by decide) hn] at hv8 ⊢
  replace h1 := h1.mono hJ8
  replace hA := hA.mono hJ8
  replace hle := hle.trans hJ8
  refine ⟨_, rfl, ?_⟩
  refine RW.op1 rfl (runs_extract rfl rfl) ?_
  refine RW.op1 rfl (runs_extract rfl rfl) ?_
  refine RW.op1 rfl (runs_assign rfl) ?_
  refine RW.op1 rfl (runs_assign rfl) ?_
  refine RW.done ?_
  refine AQ.next ?_
  refine CW.ret ?_
  refine AQ.ret2 rfl rfl rfl ?_
  exact ⟨_, v8, hle, rfl, hst, hv8⟩
set_option maxRecDepth 100000 in
set_option maxHeartbeats 8000000 in
theorem trecords_spec {w0 w : World} {I : Imm} {L : Own} (hst : St w0 w I L) (n0 : Int) (hn0 : i64ok n0) :
    Calls Try.prog 4 #[.int .i64 n0] w fun e w' => e = .returned (.bool true) ∧ ∃ I', I.le I' ∧ St w0 w' I' L := by
  refine enter Try.func4 rfl (N := 160) rfl rfl ?_
  simp only [List.zipIdx_cons, List.zipIdx_nil, List.map_cons, List.map_nil, Nat.zero_add, Nat.reduceAdd]
  have hle := Imm.le.refl I
  refine CW.seq ?_
  -- region 0
  refine CW.region ?_
  refine RW.op1 rfl (runs_assign rfl) ?_
  refine RW.done ?_
  refine AQ.next ?_
  refine CW.seq ?_
  -- region 1
  refine CW.region ?_
  refine RW.op1 rfl (runs_move rfl) ?_
  refine RW.call rfl call8 rfl rfl (within_spec hst (v := n0) (n := 1000) hn0 (by unfold i64ok; decide)) ?_
  rintro e w ⟨rfl, hstn⟩
  clear hst
  have hst := hstn
  clear hstn
  have q0 := within_range n0 1000
  have q1 := q0.2 (by decide)
  generalize within n0 1000 = q at q0 q1 ⊢
  refine ⟨_, rfl, ?_⟩
  refine RW.op1 rfl (runs_add rfl rfl (by omega)) ?_
  obtain ⟨n, hnq⟩ : ∃ y, 1 + q = y := ⟨_, rfl⟩
  rw [hnq]
  have hn1 : 1 ≤ n ∧ n ≤ 1000 := by omega
  have hn : i64ok n := by unfold i64ok; omega
  have hnm : i64ok (n - 1) := by unfold i64ok; omega
  refine RW.op1 rfl (runs_assign rfl) ?_
  refine RW.done ?_
  refine AQ.next ?_
  refine CW.seq ?_
  -- region 2
  refine CW.region ?_
  refine RW.op1 rfl (runs_move rfl) ?_
  refine RW.call rfl call15 rfl rfl (droprec_spec hst hn) ?_
  rintro e w ⟨J21, v21, hJ21, rfl, hstn, hv21⟩
  clear hst
  have hst := hstn
  clear hstn
  replace hle := hle.trans hJ21
  refine ⟨_, rfl, ?_⟩
  refine RW.op1 rfl (runs_move rfl) ?_
  refine RW.op1 rfl (runs_extract rfl rfl) ?_
  refine RW.op1 rfl (runs_extract rfl rfl) ?_
  refine RW.op1 rfl (runs_assign rfl) ?_
  refine RW.op1 rfl (runs_assign rfl) ?_
  refine RW.done ?_
  refine AQ.next ?_
  refine CW.seq ?_
  -- region 3
  refine CW.region ?_
  refine RW.op1 rfl (runs_makeIface con9 rfl) ?_
  refine RW.op1 rfl (runs_move rfl) ?_
  refine RW.op1 rfl (runs_makeIface con3 rfl) ?_
  refine RW.opE rfl (runs_lit1R (xs := ([.txt dropS, .num n] : List AV).map AV.v) Try.underlying50 ti20 (by decide) rfl rfl rfl (by simp [AV.v, Value.oneCell']) hst) ?_
  rintro u3 w ⟨I3, hI3, hstn, h3⟩
  clear hst
  have hst := hstn
  clear hstn
  replace hv21 := hv21.mono hI3
  replace hle := hle.trans hI3
  have hA28 : RdA _ u3 [.txt dropS, .num n] := h3
  refine RW.call rfl call16 rfl rfl (enc_spec hst hA28 (two_good (by decide) hn) (show 2 ≤ 100000000000 by decide)) ?_
  rintro e w ⟨J29, v29, hJ29, rfl, hstn, hv29⟩
  clear hst
  have hst := hstn
  clear hstn
  rw [two_ok (by decide) hn] at hv29 ⊢
  rw [if_pos rfl] at hv29
  replace hv21 := hv21.mono hJ29
  replace h3 := h3.mono hJ29
  replace hA28 := hA28.mono hJ29
  replace hle := hle.trans hJ29
  refine ⟨_, rfl, ?_⟩
  refine RW.op1 rfl (runs_move rfl) ?_
  refine RW.op1 rfl (runs_extract rfl rfl) ?_
  refine RW.op1 rfl (runs_extract rfl rfl) ?_
  refine RW.op1 rfl (runs_assign rfl) ?_
  refine RW.op1 rfl (runs_assign rfl) ?_
  refine RW.done ?_
  refine AQ.next ?_
  refine CW.seq ?_
  refine CW.seq ?_
  -- region 4
  refine CW.region ?_
  refine RW.op1 rfl (runs_move rfl) ?_
  refine RW.op1 rfl (runs_neI rfl rfl) ?_
  refine RW.op1 rfl (runs_move rfl) ?_
  have hk34 := (show decide ((0 : Int) ≠ 0) = false from by decide)
  refine RW.on_guard rfl rfl rfl rfl hk34 ?_
  refine RW.op1 rfl (runs_move rfl) ?_
  refine RW.on_guard rfl rfl rfl rfl hk34 ?_
  refine RW.op1 rfl (runs_neI rfl rfl) ?_
  refine RW.op1 rfl (runs_pick_false rfl hk34 rfl) ?_
  refine RW.op1 rfl (runs_move rfl) ?_
  have hk38 := (show decide ((0 : Int) ≠ 0) = false from by decide)
  refine RW.on_guard rfl rfl rfl rfl hk38 ?_
  refine RW.op1 rfl (runs_move rfl) ?_
  refine RW.on_guard rfl rfl rfl rfl hk38 ?_
  refine RW.op1 rfl (runs_move rfl) ?_
  refine RW.on_guard rfl rfl rfl rfl hk38 ?_
  refine RW.call rfl call17 rfl rfl (same_spec hst hv21 hv29 (Nat.le_trans (encA_le (two_ok (by decide) hn)) (by show 2 * 257 ≤ 140737488355328; decide))) ?_
  rintro e w ⟨rfl, hstn⟩
  clear hst
  have hst := hstn
  clear hstn
  refine ⟨_, rfl, ?_⟩
  refine RW.on_guard rfl rfl rfl rfl hk38 ?_
  refine RW.op1 rfl (runs_not rfl) ?_
  refine RW.op1 rfl (runs_pick_false rfl hk38 rfl) ?_
  refine RW.done ?_
  refine AQ.next ?_
  refine CW.cond rfl (fun hc => absurd hc (by simp)) (fun hc => ?_)
  refine CW.skip ?_
  refine AQ.next ?_
  refine CW.seq ?_
  -- region 6
  refine CW.region ?_
  refine RW.call rfl call7 rfl rfl (new_spec hst) ?_
  rintro e w ⟨bT, Lt, rfl, hstn, hd⟩
  clear hst
  have hst := hstn
  clear hstn
  refine ⟨_, rfl, ?_⟩
  refine RW.op1 rfl (runs_assign rfl) ?_
  refine RW.done ?_
  refine AQ.next ?_
  refine CW.seq ?_
  refine CW.seq ?_
  -- region 7
  refine CW.region ?_
  refine RW.op1 rfl (runs_move rfl) ?_
  refine RW.op1 rfl (runs_eq_nilptr Try.underlying23 rfl) ?_
  refine RW.done ?_
  refine AQ.next ?_
  refine CW.cond rfl (fun hc => absurd hc (by simp)) (fun hc => ?_)
  refine CW.skip ?_
  refine AQ.next ?_
  refine CW.seq ?_
  -- region 9
  refine CW.region ?_
  refine RW.op1 rfl (runs_makeIface con9 rfl) ?_
  refine RW.op1 rfl (runs_move rfl) ?_
  refine RW.op1 rfl (runs_makeIface con3 rfl) ?_
  refine RW.opE rfl (runs_lit1R (xs := ([.txt nextS, .num n] : List AV).map AV.v) Try.underlying50 ti20 (by decide) rfl rfl rfl (by simp [AV.v, Value.oneCell']) hst) ?_
  rintro u7 w ⟨I7, hI7, hstn, h7⟩
  clear hst
  have hst := hstn
  clear hstn
  replace hv21 := hv21.mono hI7
  replace h3 := h3.mono hI7
  replace hA28 := hA28.mono hI7
  replace hv29 := hv29.mono hI7
  replace hd := hd.mono hI7
  replace hle := hle.trans hI7
  have hA51 : RdA _ u7 [.txt nextS, .num n] := h7
  refine RW.call rfl call16 rfl rfl (enc_spec hst hA51 (two_good (by decide) hn) (show 2 ≤ 100000000000 by decide)) ?_
  rintro e w ⟨J52, v52, hJ52, rfl, hstn, hv52⟩
  clear hst
  have hst := hstn
  clear hstn
  rw [two_ok (by decide) hn] at hv52 ⊢
  rw [if_pos rfl] at hv52
  replace hv21 := hv21.mono hJ52
  replace h3 := h3.mono hJ52
  replace hA28 := hA28.mono hJ52
  replace hv29 := hv29.mono hJ52
  replace hd := hd.mono hJ52
  replace h7 := h7.mono hJ52
  replace hA51 := hA51.mono hJ52
  replace hle := hle.trans hJ52
  refine ⟨_, rfl, ?_⟩
  refine RW.op1 rfl (runs_move rfl) ?_
  refine RW.op1 rfl (runs_extract rfl rfl) ?_
  refine RW.op1 rfl (runs_extract rfl rfl) ?_
  refine RW.op1 rfl (runs_assign rfl) ?_
  refine RW.op1 rfl (runs_assign rfl) ?_
  refine RW.done ?_
  refine AQ.next ?_
  refine CW.seq ?_
  refine CW.seq ?_
  -- region 10
  refine CW.region ?_
  refine RW.op1 rfl (runs_move rfl) ?_
  refine RW.op1 rfl (runs_move rfl) ?_
  refine RW.call rfl call18 rfl rfl (apply_spec hd hst hv21 (Nat.le_trans (encA_le (two_ok (by decide) hn)) (by show 2 * 257 ≤ 100000000; decide))) ?_
  rintro e w ⟨J57, rows57, next57, Lt57, err57, hJ57, rfl, hstn, hd57, hap57⟩
  clear hst
  have hst := hstn
  clear hstn
  obtain ⟨rfl, rfl, rfl⟩ := Ap_drop (decA_encA (Nat.le_refl 255) (two_good (by decide) hn)) hap57
  replace hv21 := hv21.mono hJ57
  replace h3 := h3.mono hJ57
  replace hA28 := hA28.mono hJ57
  replace hv29 := hv29.mono hJ57
  replace hd := hd.mono hJ57
  replace h7 := h7.mono hJ57
  replace hA51 := hA51.mono hJ57
  replace hv52 := hv52.mono hJ57
  replace hle := hle.trans hJ57
  refine ⟨_, rfl, ?_⟩
  refine RW.op1 rfl (runs_neI rfl rfl) ?_
  refine RW.op1 rfl (runs_move rfl) ?_
  have hk59 := (show decide ((0 : Int) ≠ 0) = false from by decide)
  refine RW.on_guard rfl rfl rfl rfl hk59 ?_
  refine RW.op1 rfl (runs_move rfl) ?_
  refine RW.on_guard rfl rfl rfl rfl hk59 ?_
  refine RW.call rfl call11 rfl rfl (next_spec hd57 hst) ?_
  rintro e w ⟨rfl, hstn⟩
  clear hst
  have hst := hstn
  clear hstn
  refine ⟨_, rfl, ?_⟩
  refine RW.on_guard rfl rfl rfl rfl hk59 ?_
  refine RW.op1 rfl (runs_neI rfl rfl) ?_
  refine RW.op1 rfl (runs_pick_false rfl hk59 rfl) ?_
  refine RW.op1 rfl (runs_move rfl) ?_
  have hk64 := (show decide ((1 : Int) ≠ 1) = false from by decide)
  refine RW.on_guard rfl rfl rfl rfl hk64 ?_
  refine RW.op1 rfl (runs_move rfl) ?_
  refine RW.on_guard rfl rfl rfl rfl hk64 ?_
  refine RW.op1 rfl (runs_move rfl) ?_
  refine RW.on_guard rfl rfl rfl rfl hk64 ?_
  refine RW.call rfl call18 rfl rfl (apply_spec hd57 hst hv52 (Nat.le_trans (encA_le (two_ok (by decide) hn)) (by show 2 * 257 ≤ 100000000; decide))) ?_
  rintro e w ⟨J67, rows67, next67, Lt67, err67, hJ67, rfl, hstn, hd67, hap67⟩
  clear hst
  have hst := hstn
  clear hstn
  obtain ⟨rfl, rfl, rfl⟩ := Ap_next (decA_encA (Nat.le_refl 255) (two_good (by decide) hn)) hap67
  have en : (if n > (1 : Int) then n else 1) = n := by split <;> omega
  rw [en] at hd67
  replace hv21 := hv21.mono hJ67
  replace h3 := h3.mono hJ67
  replace hA28 := hA28.mono hJ67
  replace hv29 := hv29.mono hJ67
  replace hd := hd.mono hJ67
  replace h7 := h7.mono hJ67
  replace hA51 := hA51.mono hJ67
  replace hv52 := hv52.mono hJ67
  replace hd57 := hd57.mono hJ67
  replace hle := hle.trans hJ67
  refine ⟨_, rfl, ?_⟩
  refine RW.on_guard rfl rfl rfl rfl hk64 ?_
  refine RW.op1 rfl (runs_neI rfl rfl) ?_
  refine RW.op1 rfl (runs_pick_false rfl hk64 rfl) ?_
  refine RW.op1 rfl (runs_move rfl) ?_
  have hk70 := (show decide ((0 : Int) ≠ 0) = false from by decide)
  refine RW.on_guard rfl rfl rfl rfl hk70 ?_
  refine RW.op1 rfl (runs_move rfl) ?_
  refine RW.on_guard rfl rfl rfl rfl hk70 ?_
  refine RW.call rfl call11 rfl rfl (next_spec hd67 hst) ?_
  rintro e w ⟨rfl, hstn⟩
  clear hst
  have hst := hstn
  clear hstn
  refine ⟨_, rfl, ?_⟩
  refine RW.on_guard rfl rfl rfl rfl hk70 ?_
  refine RW.op1 rfl (runs_move rfl) ?_
  refine RW.on_guard rfl rfl rfl rfl hk70 ?_
  refine RW.op1 rfl (runs_neI rfl rfl) ?_
  refine RW.op1 rfl (runs_pick_false rfl hk70 rfl) ?_
  refine RW.done ?_
  refine AQ.next ?_
  refine CW.cond rfl (fun hc => absurd hc (by simp)) (fun hc => ?_)
  refine CW.skip ?_
  refine AQ.next ?_
  refine CW.seq ?_
  -- region 12
  refine CW.region ?_
  refine RW.op1 rfl (runs_makeIface con9 rfl) ?_
  refine RW.op1 rfl (runs_move rfl) ?_
  refine RW.op1 rfl (runs_sub rfl rfl (by omega)) ?_
  refine RW.op1 rfl (runs_makeIface con3 rfl) ?_
  refine RW.opE rfl (runs_lit1R (xs := ([.txt nextS, .num (n - 1)] : List AV).map AV.v) Try.underlying50 ti20 (by decide) rfl rfl rfl (by simp [AV.v, Value.oneCell']) hst) ?_
  rintro u13 w ⟨I13, hI13, hstn, h13⟩
  clear hst
  have hst := hstn
  clear hstn
  replace hd67 := hd67.mono hI13
  replace hle := hle.trans hI13
  have hA81 : RdA _ u13 [.txt nextS, .num (n - 1)] := h13
  refine RW.call rfl call16 rfl rfl (enc_spec hst hA81 (two_good (by decide) hnm) (show 2 ≤ 100000000000 by decide)) ?_
  rintro e w ⟨J82, v82, hJ82, rfl, hstn, hv82⟩
  clear hst
  have hst := hstn
  clear hstn
  rw [two_ok (by decide) hnm] at hv82 ⊢
  rw [if_pos rfl] at hv82
  replace hd67 := hd67.mono hJ82
  replace h13 := h13.mono hJ82
  replace hA81 := hA81.mono hJ82
  replace hle := hle.trans hJ82
  refine ⟨_, rfl, ?_⟩
  refine RW.op1 rfl (runs_move rfl) ?_
  refine RW.op1 rfl (runs_extract rfl rfl) ?_
  refine RW.op1 rfl (runs_extract rfl rfl) ?_
  refine RW.op1 rfl (runs_assign rfl) ?_
  refine RW.op1 rfl (runs_assign rfl) ?_
  refine RW.done ?_
  refine AQ.next ?_
  refine CW.seq ?_
  refine CW.seq ?_
  -- region 13
  refine CW.region ?_
  refine RW.op1 rfl (runs_move rfl) ?_
  refine RW.op1 rfl (runs_move rfl) ?_
  refine RW.call rfl call18 rfl rfl (apply_spec hd67 hst hv82 (Nat.le_trans (encA_le (two_ok (by decide) hnm)) (by show 2 * 257 ≤ 100000000; decide))) ?_
  rintro e w ⟨J87, rows87, next87, Lt87, err87, hJ87, rfl, hstn, hd87, hap87⟩
  clear hst
  have hst := hstn
  clear hstn
  obtain ⟨rfl, rfl, rfl⟩ := Ap_next (decA_encA (Nat.le_refl 255) (two_good (by decide) hnm)) hap87
  have en2 : (if n - 1 > n then n - 1 else n) = n := by split <;> omega
  rw [en2] at hd87
  replace hd67 := hd67.mono hJ87
  replace hv82 := hv82.mono hJ87
  replace hle := hle.trans hJ87
  refine ⟨_, rfl, ?_⟩
  refine RW.op1 rfl (runs_neI rfl rfl) ?_
  refine RW.op1 rfl (runs_move rfl) ?_
  have hk89 := (show decide ((0 : Int) ≠ 0) = false from by decide)
  refine RW.on_guard rfl rfl rfl rfl hk89 ?_
  refine RW.op1 rfl (runs_move rfl) ?_
  refine RW.on_guard rfl rfl rfl rfl hk89 ?_
  refine RW.call rfl call11 rfl rfl (next_spec hd87 hst) ?_
  rintro e w ⟨rfl, hstn⟩
  clear hst
  have hst := hstn
  clear hstn
  refine ⟨_, rfl, ?_⟩
  refine RW.on_guard rfl rfl rfl rfl hk89 ?_
  refine RW.op1 rfl (runs_move rfl) ?_
  refine RW.on_guard rfl rfl rfl rfl hk89 ?_
  refine RW.op1 rfl (runs_neI rfl rfl) ?_
  refine RW.op1 rfl (runs_pick_false rfl hk89 rfl) ?_
  refine RW.done ?_
  refine AQ.next ?_
  refine CW.cond rfl (fun hc => absurd hc (by simp)) (fun hc => ?_)
  refine CW.skip ?_
  refine AQ.next ?_
  refine CW.seq ?_
  refine CW.seq ?_
  -- region 15
  refine CW.region ?_
  refine RW.opE rfl (runs_lit1R (xs := ([] : List AV).map AV.v) Try.underlying50 ti20 (by decide) rfl rfl rfl (by simp [AV.v, Value.oneCell']) hst) ?_
  rintro u17 w ⟨I17, hI17, hstn, h17⟩
  clear hst
  have hst := hstn
  clear hstn
  replace hd87 := hd87.mono hI17
  replace hle := hle.trans hI17
  have hR0 : RdA _ u17 [] := h17
  obtain ⟨r0, rfl⟩ : ∃ v, v = u17 := ⟨_, rfl⟩
  refine RW.op1 rfl (runs_makeIface con9 rfl) ?_
  refine RW.opE rfl (runs_lit1R (xs := ([.txt ⟨#[112, 117, 116]⟩] : List AV).map AV.v) Try.underlying50 ti20 (by decide) rfl rfl rfl (by simp [AV.v, Value.oneCell']) hst) ?_
  rintro u18 w ⟨I18, hI18, hstn, h18⟩
  clear hst
  have hst := hstn
  clear hstn
  replace hd87 := hd87.mono hI18
  replace h17 := h17.mono hI18
  replace hR0 := hR0.mono hI18
  replace hle := hle.trans hI18
  have hR1 : RdA _ u18 [.txt ⟨#[112, 117, 116]⟩] := h18
  obtain ⟨r1, rfl⟩ : ∃ v, v = u18 := ⟨_, rfl⟩
  refine RW.op1 rfl (runs_makeIface con9 rfl) ?_
  refine RW.op1 rfl (runs_makeIface con3 rfl) ?_
  refine RW.opE rfl (runs_lit1R (xs := ([.txt ⟨#[112, 117, 116]⟩, .num 1] : List AV).map AV.v) Try.underlying50 ti20 (by decide) rfl rfl rfl (by simp [AV.v, Value.oneCell']) hst) ?_
  rintro u19 w ⟨I19, hI19, hstn, h19⟩
  clear hst
  have hst := hstn
  clear hstn
  replace hd87 := hd87.mono hI19
  replace h17 := h17.mono hI19
  replace hR0 := hR0.mono hI19
  replace h18 := h18.mono hI19
  replace hR1 := hR1.mono hI19
  replace hle := hle.trans hI19
  have hR2 : RdA _ u19 [.txt ⟨#[112, 117, 116]⟩, .num 1] := h19
  obtain ⟨r2, rfl⟩ : ∃ v, v = u19 := ⟨_, rfl⟩
  refine RW.op1 rfl (runs_makeIface con9 rfl) ?_
  refine RW.op1 rfl (runs_makeIface con9 rfl) ?_
  refine RW.opE rfl (runs_lit1R (xs := ([.txt ⟨#[112, 117, 116]⟩, .txt ⟨#[120]⟩] : List AV).map AV.v) Try.underlying50 ti20 (by decide) rfl rfl rfl (by simp [AV.v, Value.oneCell']) hst) ?_
  rintro u20 w ⟨I20, hI20, hstn, h20⟩
  clear hst
  have hst := hstn
  clear hstn
  replace hd87 := hd87.mono hI20
  replace h17 := h17.mono hI20
  replace hR0 := hR0.mono hI20
  replace h18 := h18.mono hI20
  replace hR1 := hR1.mono hI20
  replace h19 := h19.mono hI20
  replace hR2 := hR2.mono hI20
  replace hle := hle.trans hI20
  have hR3 : RdA _ u20 [.txt ⟨#[112, 117, 116]⟩, .txt ⟨#[120]⟩] := h20
  obtain ⟨r3, rfl⟩ : ∃ v, v = u20 := ⟨_, rfl⟩
  refine RW.op1 rfl (runs_makeIface con9 rfl) ?_
  refine RW.opE rfl (runs_lit1R (xs := ([.txt ⟨#[100, 114, 111, 112]⟩] : List AV).map AV.v) Try.underlying50 ti20 (by decide) rfl rfl rfl (by simp [AV.v, Value.oneCell']) hst) ?_
  rintro u21 w ⟨I21, hI21, hstn, h21⟩
  clear hst
  have hst := hstn
  clear hstn
  replace hd87 := hd87.mono hI21
  replace h17 := h17.mono hI21
  replace hR0 := hR0.mono hI21
  replace h18 := h18.mono hI21
  replace hR1 := hR1.mono hI21
  replace h19 := h19.mono hI21
  replace hR2 := hR2.mono hI21
  replace h20 := h20.mono hI21
  replace hR3 := hR3.mono hI21
  replace hle := hle.trans hI21
  have hR4 : RdA _ u21 [.txt ⟨#[100, 114, 111, 112]⟩] := h21
  obtain ⟨r4, rfl⟩ : ∃ v, v = u21 := ⟨_, rfl⟩
  refine RW.op1 rfl (runs_makeIface con9 rfl) ?_
  refine RW.op1 rfl (runs_makeIface con9 rfl) ?_
  refine RW.opE rfl (runs_lit1R (xs := ([.txt ⟨#[100, 114, 111, 112]⟩, .txt ⟨#[49]⟩] : List AV).map AV.v) Try.underlying50 ti20 (by decide) rfl rfl rfl (by simp [AV.v, Value.oneCell']) hst) ?_
  rintro u22 w ⟨I22, hI22, hstn, h22⟩
  clear hst
  have hst := hstn
  clear hstn
  replace hd87 := hd87.mono hI22
  replace h17 := h17.mono hI22
  replace hR0 := hR0.mono hI22
  replace h18 := h18.mono hI22
  replace hR1 := hR1.mono hI22
  replace h19 := h19.mono hI22
  replace hR2 := hR2.mono hI22
  replace h20 := h20.mono hI22
  replace hR3 := hR3.mono hI22
  replace h21 := h21.mono hI22
  replace hR4 := hR4.mono hI22
  replace hle := hle.trans hI22
  have hR5 : RdA _ u22 [.txt ⟨#[100, 114, 111, 112]⟩, .txt ⟨#[49]⟩] := h22
  obtain ⟨r5, rfl⟩ : ∃ v, v = u22 := ⟨_, rfl⟩
  refine RW.op1 rfl (runs_makeIface con9 rfl) ?_
  refine RW.op1 rfl (runs_makeIface con3 rfl) ?_
  refine RW.op1 rfl (runs_makeIface con3 rfl) ?_
  refine RW.opE rfl (runs_lit1R (xs := ([.txt ⟨#[100, 114, 111, 112]⟩, .num 1, .num 2] : List AV).map AV.v) Try.underlying50 ti20 (by decide) rfl rfl rfl (by simp [AV.v, Value.oneCell']) hst) ?_
  rintro u23 w ⟨I23, hI23, hstn, h23⟩
  clear hst
  have hst := hstn
  clear hstn
  replace hd87 := hd87.mono hI23
  replace h17 := h17.mono hI23
  replace hR0 := hR0.mono hI23
  replace h18 := h18.mono hI23
  replace hR1 := hR1.mono hI23
  replace h19 := h19.mono hI23
  replace hR2 := hR2.mono hI23
  replace h20 := h20.mono hI23
  replace hR3 := hR3.mono hI23
  replace h21 := h21.mono hI23
  replace hR4 := hR4.mono hI23
  replace h22 := h22.mono hI23
  replace hR5 := hR5.mono hI23
  replace hle := hle.trans hI23
  have hR6 : RdA _ u23 [.txt ⟨#[100, 114, 111, 112]⟩, .num 1, .num 2] := h23
  obtain ⟨r6, rfl⟩ : ∃ v, v = u23 := ⟨_, rfl⟩
  refine RW.op1 rfl (runs_makeIface con9 rfl) ?_
  refine RW.opE rfl (runs_lit1R (xs := ([.txt ⟨#[110, 101, 120, 116]⟩] : List AV).map AV.v) Try.underlying50 ti20 (by decide) rfl rfl rfl (by simp [AV.v, Value.oneCell']) hst) ?_
  rintro u24 w ⟨I24, hI24, hstn, h24⟩
  clear hst
  have hst := hstn
  clear hstn
  replace hd87 := hd87.mono hI24
  replace h17 := h17.mono hI24
  replace hR0 := hR0.mono hI24
  replace h18 := h18.mono hI24
  replace hR1 := hR1.mono hI24
  replace h19 := h19.mono hI24
  replace hR2 := hR2.mono hI24
  replace h20 := h20.mono hI24
  replace hR3 := hR3.mono hI24
  replace h21 := h21.mono hI24
  replace hR4 := hR4.mono hI24
  replace h22 := h22.mono hI24
  replace hR5 := hR5.mono hI24
  replace h23 := h23.mono hI24
  replace hR6 := hR6.mono hI24
  replace hle := hle.trans hI24
  have hR7 : RdA _ u24 [.txt ⟨#[110, 101, 120, 116]⟩] := h24
  obtain ⟨r7, rfl⟩ : ∃ v, v = u24 := ⟨_, rfl⟩
  refine RW.op1 rfl (runs_makeIface con9 rfl) ?_
  refine RW.op1 rfl (runs_makeIface con4 rfl) ?_
  refine RW.opE rfl (runs_lit1R (xs := ([.txt ⟨#[110, 101, 120, 116]⟩, .flg true] : List AV).map AV.v) Try.underlying50 ti20 (by decide) rfl rfl rfl (by simp [AV.v, Value.oneCell']) hst) ?_
  rintro u25 w ⟨I25, hI25, hstn, h25⟩
  clear hst
  have hst := hstn
  clear hstn
  replace hd87 := hd87.mono hI25
  replace h17 := h17.mono hI25
  replace hR0 := hR0.mono hI25
  replace h18 := h18.mono hI25
  replace hR1 := hR1.mono hI25
  replace h19 := h19.mono hI25
  replace hR2 := hR2.mono hI25
  replace h20 := h20.mono hI25
  replace hR3 := hR3.mono hI25
  replace h21 := h21.mono hI25
  replace hR4 := hR4.mono hI25
  replace h22 := h22.mono hI25
  replace hR5 := hR5.mono hI25
  replace h23 := h23.mono hI25
  replace hR6 := hR6.mono hI25
  replace h24 := h24.mono hI25
  replace hR7 := hR7.mono hI25
  replace hle := hle.trans hI25
  have hR8 : RdA _ u25 [.txt ⟨#[110, 101, 120, 116]⟩, .flg true] := h25
  obtain ⟨r8, rfl⟩ : ∃ v, v = u25 := ⟨_, rfl⟩
  refine RW.op1 rfl (runs_makeIface con9 rfl) ?_
  refine RW.op1 rfl (runs_makeIface con3 rfl) ?_
  refine RW.opE rfl (runs_lit1R (xs := ([.txt ⟨#[119, 104, 97, 116]⟩, .num 1] : List AV).map AV.v) Try.underlying50 ti20 (by decide) rfl rfl rfl (by simp [AV.v, Value.oneCell']) hst) ?_
  rintro u26 w ⟨I26, hI26, hstn, h26⟩
  clear hst
  have hst := hstn
  clear hstn
  replace hd87 := hd87.mono hI26
  replace h17 := h17.mono hI26
  replace hR0 := hR0.mono hI26
  replace h18 := h18.mono hI26
  replace hR1 := hR1.mono hI26
  replace h19 := h19.mono hI26
  replace hR2 := hR2.mono hI26
  replace h20 := h20.mono hI26
  replace hR3 := hR3.mono hI26
  replace h21 := h21.mono hI26
  replace hR4 := hR4.mono hI26
  replace h22 := h22.mono hI26
  replace hR5 := hR5.mono hI26
  replace h23 := h23.mono hI26
  replace hR6 := hR6.mono hI26
  replace h24 := h24.mono hI26
  replace hR7 := hR7.mono hI26
  replace h25 := h25.mono hI26
  replace hR8 := hR8.mono hI26
  replace hle := hle.trans hI26
  have hR9 : RdA _ u26 [.txt ⟨#[119, 104, 97, 116]⟩, .num 1] := h26
  obtain ⟨r9, rfl⟩ : ∃ v, v = u26 := ⟨_, rfl⟩
  refine RW.op1 rfl (runs_makeIface con3 rfl) ?_
  refine RW.op1 rfl (runs_makeIface con9 rfl) ?_
  refine RW.opE rfl (runs_lit1R (xs := ([.num 1, .txt ⟨#[100, 114, 111, 112]⟩] : List AV).map AV.v) Try.underlying50 ti20 (by decide) rfl rfl rfl (by simp [AV.v, Value.oneCell']) hst) ?_
  rintro u27 w ⟨I27, hI27, hstn, h27⟩
  clear hst
  have hst := hstn
  clear hstn
  replace hd87 := hd87.mono hI27
  replace h17 := h17.mono hI27
  replace hR0 := hR0.mono hI27
  replace h18 := h18.mono hI27
  replace hR1 := hR1.mono hI27
  replace h19 := h19.mono hI27
  replace hR2 := hR2.mono hI27
  replace h20 := h20.mono hI27
  replace hR3 := hR3.mono hI27
  replace h21 := h21.mono hI27
  replace hR4 := hR4.mono hI27
  replace h22 := h22.mono hI27
  replace hR5 := hR5.mono hI27
  replace h23 := h23.mono hI27
  replace hR6 := hR6.mono hI27
  replace h24 := h24.mono hI27
  replace hR7 := hR7.mono hI27
  replace h25 := h25.mono hI27
  replace hR8 := hR8.mono hI27
  replace h26 := h26.mono hI27
  replace hR9 := hR9.mono hI27
  replace hle := hle.trans hI27
  have hR10 : RdA _ u27 [.num 1, .txt ⟨#[100, 114, 111, 112]⟩] := h27
  obtain ⟨r10, rfl⟩ : ∃ v, v = u27 := ⟨_, rfl⟩
  refine RW.op1 rfl (runs_makeIface con9 rfl) ?_
  refine RW.op1 rfl (runs_makeIface con3 rfl) ?_
  refine RW.opE rfl (runs_lit1R (xs := ([.txt ⟨#[68, 114, 111, 112]⟩, .num 1] : List AV).map AV.v) Try.underlying50 ti20 (by decide) rfl rfl rfl (by simp [AV.v, Value.oneCell']) hst) ?_
  rintro u28 w ⟨I28, hI28, hstn, h28⟩
  clear hst
  have hst := hstn
  clear hstn
  replace hd87 := hd87.mono hI28
  replace h17 := h17.mono hI28
  replace hR0 := hR0.mono hI28
  replace h18 := h18.mono hI28
  replace hR1 := hR1.mono hI28
  replace h19 := h19.mono hI28
  replace hR2 := hR2.mono hI28
  replace h20 := h20.mono hI28
  replace hR3 := hR3.mono hI28
  replace h21 := h21.mono hI28
  replace hR4 := hR4.mono hI28
  replace h22 := h22.mono hI28
  replace hR5 := hR5.mono hI28
  replace h23 := h23.mono hI28
  replace hR6 := hR6.mono hI28
  replace h24 := h24.mono hI28
  replace hR7 := hR7.mono hI28
  replace h25 := h25.mono hI28
  replace hR8 := hR8.mono hI28
  replace h26 := h26.mono hI28
  replace hR9 := hR9.mono hI28
  replace h27 := h27.mono hI28
  replace hR10 := hR10.mono hI28
  replace hle := hle.trans hI28
  have hR11 : RdA _ u28 [.txt ⟨#[68, 114, 111, 112]⟩, .num 1] := h28
  obtain ⟨r11, rfl⟩ : ∃ v, v = u28 := ⟨_, rfl⟩
  refine RW.opE rfl (runs_lit1R (xs := [r0, r1, r2, r3, r4, r5, r6, r7, r8, r9, r10, r11]) Try.underlying51 ti50 (by decide) rfl rfl rfl (by
    intro u hu
    simp only [List.mem_cons, List.not_mem_nil, or_false] at hu
    rcases hu with rfl | rfl | rfl | rfl | rfl | rfl | rfl | rfl | rfl | rfl | rfl | rfl
    · exact RdL.one hR0
    · exact RdL.one hR1
    · exact RdL.one hR2
    · exact RdL.one hR3
    · exact RdL.one hR4
    · exact RdL.one hR5
    · exact RdL.one hR6
    · exact RdL.one hR7
    · exact RdL.one hR8
    · exact RdL.one hR9
    · exact RdL.one hR10
    · exact RdL.one hR11) hst) ?_
  rintro u29 w ⟨I29, hI29, hstn, h29⟩
  clear hst
  have hst := hstn
  clear hstn
  replace hd87 := hd87.mono hI29
  replace h17 := h17.mono hI29
  replace hR0 := hR0.mono hI29
  replace h18 := h18.mono hI29
  replace hR1 := hR1.mono hI29
  replace h19 := h19.mono hI29
  replace hR2 := hR2.mono hI29
  replace h20 := h20.mono hI29
  replace hR3 := hR3.mono hI29
  replace h21 := h21.mono hI29
  replace hR4 := hR4.mono hI29
  replace h22 := h22.mono hI29
  replace hR5 := hR5.mono hI29
  replace h23 := h23.mono hI29
  replace hR6 := hR6.mono hI29
  replace h24 := h24.mono hI29
  replace hR7 := hR7.mono hI29
  replace h25 := h25.mono hI29
  replace hR8 := hR8.mono hI29
  replace h26 := h26.mono hI29
  replace hR9 := hR9.mono hI29
  replace h27 := h27.mono hI29
  replace hR10 := hR10.mono hI29
  replace h28 := h28.mono hI29
  replace hR11 := hR11.mono hI29
  replace hle := hle.trans hI29
  have hO : RdL _ 1 u29 12 [r0, r1, r2, r3, r4, r5, r6, r7, r8, r9, r10, r11] := h29
  obtain ⟨vO, rfl⟩ : ∃ v, v = u29 := ⟨_, rfl⟩
  have hE : ∀ k, k < 12 → RdA I29 (([r0, r1, r2, r3, r4, r5, r6, r7, r8, r9, r10, r11] : List Value).getD k .nilIface) (recsL.getD k []) := fun k hk => by
    match k, hk with
    | 0, _ => exact hR0
    | 1, _ => exact hR1
    | 2, _ => exact hR2
    | 3, _ => exact hR3
    | 4, _ => exact hR4
    | 5, _ => exact hR5
    | 6, _ => exact hR6
    | 7, _ => exact hR7
    | 8, _ => exact hR8
    | 9, _ => exact hR9
    | 10, _ => exact hR10
    | 11, _ => exact hR11
    | k + 12, h => omega
  obtain ⟨vs, hvs⟩ : ∃ vs : List Value, [r0, r1, r2, r3, r4, r5, r6, r7, r8, r9, r10, r11] = vs := ⟨_, rfl⟩
  have hvl : vs.length = 12 := by rw [← hvs]; rfl
  rw [hvs] at hO hE
  refine RW.op1 rfl (RdL.len Try.underlying51 rfl hO) ?_
  refine RW.op1 rfl (runs_move rfl) ?_
  refine RW.done ?_
  refine AQ.next ?_
  refine CW.block ?_
  -- loop 1
  refine CW.loop (Nat × Imm × Own) (fun x w => I.le x.2.1 ∧ RdL x.2.1 1 vO 12 vs ∧ (∀ k, k < 12 → RdA x.2.1 (vs.getD k .nilIface) (recsL.getD k [])) ∧ TbO x.2.1 [] n bT x.2.2 ∧ St w0 w x.2.1 (x.2.2 ++ L) ∧ x.1 ≤ 12) (fun x => [(0, .int .i64 n), (7, .pointer (some ⟨bT, 0, none⟩)), (127, vO), (128, .int .i64 (12 : Nat)), (129, .int .i64 (x.1 : Int))]) (fun x => 12 - x.1) ⟨(0, _, _), ⟨hle, hO, hE, hd87, hst, Nat.zero_le _⟩, ⟨rfl, rfl, rfl, rfl, rfl, trivial⟩⟩ ?_
  clear hle hO hE hd87 hst
  rintro ⟨k, J, Lx⟩ w ⟨hle, hO, hE, hd, hst, hk⟩
  dsimp only at hle hO hE hd hst hk ⊢
  refine CW.seq ?_
  -- region 16
  refine CW.region ?_
  refine RW.op1 rfl (runs_lss rfl rfl) ?_
  refine RW.done ?_
  refine AQ.next ?_
  refine CW.seq ?_
  refine CW.cond rfl (fun hc130 => ?_) (fun hc130 => ?_)
  · have hcb130 := hc130
    try simp only [decide_eq_true_eq, decide_eq_false_iff_not] at hc130
    have hk1 : k < 12 := by omega
    refine CW.skip ?_
    refine AQ.next ?_
    refine CW.seq ?_
    refine CW.block ?_
    refine CW.seq ?_
    -- region 17
    refine CW.region ?_
    refine RW.op1 rfl (RdL.indexAddr Try.underlying51 ti50 (by decide) rfl rfl hO (by omega)) ?_
    refine RW.op1 rfl (runs_load1 sc50 rfl (hst.cell_imm (RdL.cell hO (k := ((k : Int)).toNat * 1) (u := vs.getD k .nilIface) (by rw [show ((k : Nat) : Int).toNat * 1 = k by omega, List.getD_eq_getElem?_getD, List.getElem?_eq_getElem (by omega)]; rfl)))) ?_
    refine RW.op1 rfl (runs_assign rfl) ?_
    refine RW.done ?_
    refine AQ.next ?_
    refine CW.seq ?_
    -- region 18
    refine CW.region ?_
    refine RW.op1 rfl (runs_move rfl) ?_
    refine RW.call rfl call16 rfl rfl (enc_spec hst (hE k hk1) (all_good (recs_gb k hk1)) (Nat.le_trans (recs_len k hk1) (by decide))) ?_
    rintro e w ⟨J135, v135, hJ135, rfl, hstn, hv135⟩
    clear hst
    have hst := hstn
    clear hstn
    rw [recs_ok k hk1] at hv135 ⊢
    rw [if_pos rfl] at hv135
    replace hd := hd.mono hJ135
    replace hle := hle.trans hJ135
    refine ⟨_, rfl, ?_⟩
    refine RW.op1 rfl (runs_move rfl) ?_
    refine RW.op1 rfl (runs_extract rfl rfl) ?_
    refine RW.op1 rfl (runs_extract rfl rfl) ?_
    refine RW.op1 rfl (runs_assign rfl) ?_
    refine RW.op1 rfl (runs_assign rfl) ?_
    refine RW.done ?_
    refine AQ.next ?_
    refine CW.seq ?_
    -- region 19
    refine CW.region ?_
    refine RW.op1 rfl (runs_move rfl) ?_
    refine RW.op1 rfl (runs_neI rfl rfl) ?_
    refine RW.op1 rfl (runs_move rfl) ?_
    have hk140 := (show decide ((0 : Int) ≠ 0) = false from by decide)
    refine RW.on_guard rfl rfl rfl rfl hk140 ?_
    refine RW.op1 rfl (runs_move rfl) ?_
    refine RW.on_guard rfl rfl rfl rfl hk140 ?_
    refine RW.op1 rfl (runs_move rfl) ?_
    refine RW.on_guard rfl rfl rfl rfl hk140 ?_
    refine RW.call rfl call18 rfl rfl (apply_spec hd hst hv135 (Nat.le_trans (encA_le (recs_ok k hk1)) (by have := recs_len k hk1; omega))) ?_
    rintro e w ⟨J143, rows143, next143, Lt143, err143, hJ143, rfl, hstn, hd143, hap143⟩
    clear hst
    have hst := hstn
    clear hstn
    obtain ⟨rfl, rfl, rfl⟩ := recs_err k hk1 hap143
    replace hd := hd.mono hJ143
    replace hv135 := hv135.mono hJ143
    replace hle := hle.trans hJ143
    refine ⟨_, rfl, ?_⟩
    refine RW.on_guard rfl rfl rfl rfl hk140 ?_
    refine RW.op1 rfl (runs_neI rfl rfl) ?_
    refine RW.op1 rfl (runs_pick_false rfl hk140 rfl) ?_
    refine RW.op1 rfl (runs_move rfl) ?_
    have hk146 := (show decide ((2 : Int) ≠ 2) = false from by decide)
    refine RW.on_guard rfl rfl rfl rfl hk146 ?_
    refine RW.op1 rfl (runs_move rfl) ?_
    refine RW.on_guard rfl rfl rfl rfl hk146 ?_
    refine RW.call rfl call11 rfl rfl (next_spec hd143 hst) ?_
    rintro e w ⟨rfl, hstn⟩
    clear hst
    have hst := hstn
    clear hstn
    refine ⟨_, rfl, ?_⟩
    refine RW.on_guard rfl rfl rfl rfl hk146 ?_
    refine RW.op1 rfl (runs_move rfl) ?_
    refine RW.on_guard rfl rfl rfl rfl hk146 ?_
    refine RW.op1 rfl (runs_neI rfl rfl) ?_
    refine RW.op1 rfl (runs_pick_false rfl hk146 rfl) ?_
    refine RW.op1 rfl (runs_move rfl) ?_
    have hk152 := (neSelf next143)
    refine RW.on_guard rfl rfl rfl rfl hk152 ?_
    refine RW.op1 rfl (runs_move rfl) ?_
    refine RW.on_guard rfl rfl rfl rfl hk152 ?_
    refine RW.call rfl call12 rfl rfl (ids_spec hd143 hst (Nat.zero_le _)) ?_
    rintro e w ⟨J154, v154, hJ154, rfl, hstn, hv154⟩
    clear hst
    have hst := hstn
    clear hstn
    replace hd := hd.mono hJ154
    replace hv135 := hv135.mono hJ154
    replace hd143 := hd143.mono hJ154
    replace hle := hle.trans hJ154
    refine ⟨_, rfl, ?_⟩
    refine RW.on_guard rfl rfl rfl rfl hk152 ?_
    refine RW.op1 rfl (RdL.len Try.underlying22 rfl hv154) ?_
    refine RW.on_guard rfl rfl rfl rfl hk152 ?_
    refine RW.op1 rfl (runs_neI rfl rfl) ?_
    refine RW.op1 rfl (runs_pick_false rfl hk152 rfl) ?_
    refine RW.done ?_
    refine AQ.next ?_
    refine CW.cond rfl (fun hc => absurd hc (by rw [keysUp_len]; decide)) (fun hc => ?_)
    refine CW.skip ?_
    refine AQ.block_normal ?_
    refine AQ.next ?_
    -- region 21
    refine CW.region ?_
    refine RW.op1 rfl (runs_add rfl rfl (by omega)) ?_
    refine RW.op1 rfl (runs_move rfl) ?_
    refine RW.done ?_
    exact AQ.again (x := (k, J, Lx)) (k + 1, J154, Lt143) ⟨hle, RdL.mono ((hJ135.trans hJ143).trans hJ154) hO, (fun j hj => RdL.mono ((hJ135.trans hJ143).trans hJ154) (hE j hj)), hd143, hst, by dsimp only; omega⟩ ⟨rfl, rfl, rfl, rfl, rfl, trivial⟩ (by dsimp only; omega)
  · have hcb130 := hc130
    try simp only [decide_eq_true_eq, decide_eq_false_iff_not] at hc130
    skip
    refine CW.exit ?_
    refine AQ.past_exit ?_
    refine AQ.past_exit ?_
    refine AQ.block_hit ?_
    refine AQ.next ?_
    refine CW.seq ?_
    -- region 22
    refine CW.region ?_
    refine RW.call rfl call14 rfl rfl (wakes18_spec hst) ?_
    rintro e w ⟨rfl, J159, hJ159, hstn⟩
    clear hst
    have hst := hstn
    clear hstn
    replace hd := hd.mono hJ159
    replace hle := hle.trans hJ159
    refine ⟨_, rfl, ?_⟩
    refine RW.op1 rfl (runs_assign rfl) ?_
    refine RW.done ?_
    refine AQ.next ?_
    refine CW.ret ?_
    refine AQ.ret1 rfl rfl ?_
    exact ⟨rfl, _, hle, hst.dropF⟩
end Go.Proofs.YtlmmpcdjkpibcaaX
