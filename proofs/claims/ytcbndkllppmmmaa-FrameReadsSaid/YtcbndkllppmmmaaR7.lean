/- Records one behind the other: the walk. -/
import Derived.Test.YtcbndkllppmmmaaT
import Derived.Test.YtcbndkllppmmmaaR6
namespace Go.Proofs.YtcbndkllppmmmaaX
set_option linter.unusedVariables false
set_option linter.unusedSimpArgs false
open Go Go.RowKit Go.Proofs

def zr32 : List UInt8 := List.replicate 32 0
/-- Where a record begins. -/
def startOf (bss : List (List UInt8)) (j : Nat) : Nat := ((bss.take j).map fun b => needN b.length).sum
theorem startOf_next {bss : List (List UInt8)} {j : Nat} {b : List UInt8} (h : bss[j]? = some b) : startOf bss (j + 1) = startOf bss j + needN b.length := by
  unfold startOf
  rw [List.take_add_one, h, Option.toList_some, List.map_append, List.sum_append]
  rfl
theorem startOf_push {bss : List (List UInt8)} {b : List UInt8} {j : Nat} (hj : j ≤ bss.length) : startOf (bss ++ [b]) j = startOf bss j := by
  unfold startOf
  rw [List.take_append_of_le_length hj]
theorem startOf_mono (bss : List (List UInt8)) {j k : Nat} (h : j ≤ k) : startOf bss j ≤ startOf bss k := by
  induction k with
  | zero => rw [show j = 0 by omega]; exact Nat.le_refl _
  | succ k ih =>
    by_cases hj : j = k + 1
    · rw [hj]; exact Nat.le_refl _
    · refine Nat.le_trans (ih (by omega)) ?_
      unfold startOf
      rw [List.take_add_one, List.map_append, List.sum_append]
      omega
/-- Values that read as rows of bytes. -/
def RV (I : Imm) (vs : List Value) (bss : List (List UInt8)) : Prop := vs.length = bss.length ∧ ∀ (i : Nat) (u : Value) (b : List UInt8), vs[i]? = some u → bss[i]? = some b → RdB I u b
theorem RV.nil (I : Imm) : RV I [] [] := ⟨rfl, fun i u b h => by simp at h⟩
theorem RV.mono {I I' : Imm} {vs : List Value} {bss : List (List UInt8)} (h : RV I vs bss) (hI : I.le I') : RV I' vs bss := ⟨h.1, fun i u b h1 h2 => RdL.mono hI (h.2 i u b h1 h2)⟩
theorem RV.push {I : Imm} {vs : List Value} {bss : List (List UInt8)} (h : RV I vs bss) {u : Value} {b : List UInt8} (hu : RdB I u b) : RV I (vs ++ [u]) (bss ++ [b]) := by
  refine ⟨by rw [List.length_append, List.length_append, h.1]; rfl, fun i x y hx hy => ?_⟩
  by_cases hi : i < vs.length
  · rw [List.getElem?_append_left hi] at hx
    rw [List.getElem?_append_left (by rw [← h.1]; exact hi)] at hy
    exact h.2 i x y hx hy
  · rw [List.getElem?_append_right (by omega)] at hx
    rw [List.getElem?_append_right (by rw [← h.1]; omega), ← h.1] at hy
    have hx1 := (List.getElem?_eq_some_iff.1 hx).1
    have h0 : i - vs.length = 0 := by simpa using hx1
    rw [h0] at hx hy
    cases hx; cases hy
    exact hu
theorem Imm.le.mono {I I' I'' : Imm} (h : I.le I') (h2 : I'.le I'') : I.le I'' := h.trans h2
theorem i64ok_wrap (n : Int) : i64ok (IntKind.i64.wrap n) := by unfold i64ok; rw [IntKind.wrap_i64]; omega
theorem iat_mem {xs : List Int} {k : Nat} (hk : k < xs.length) : iat xs (k : Int) ∈ xs := by
  have : iat xs (k : Int) = xs[k] := by unfold iat; simp [hk]
  rw [this]
  exact List.getElem_mem _
/-- The records on the disk. -/
def RowsP (S : DS) (bss : List (List UInt8)) : Prop := Up S ∧ S.secs.length = 60 ∧ startOf bss bss.length ≤ 59 ∧ (∀ (j : Nat) (b : List UInt8), bss[j]? = some b → Holds S (startOf bss j : Nat) 2 (5 + (j : Int)) b) ∧ ∀ p : Int, (startOf bss bss.length : Nat) ≤ p → p < 60 → readR S p = zr32
theorem RowsP.start : RowsP (newR 60) [] := by
  refine ⟨⟨rfl, rfl⟩, rfl, by decide, fun j b h => by simp at h, fun p h0 h1 => ?_⟩
  show (newR 60).secs.getD p.toNat [] = zr32
  have hp : p.toNat < 60 := by omega
  show (List.replicate 60 (List.replicate 32 0)).getD p.toNat [] = _
  rw [List.getD_eq_getElem?_getD, List.getElem?_replicate, if_pos hp]
  rfl
theorem RowsP.push {S : DS} {bss : List (List UInt8)} (h : RowsP S bss) {b : List UInt8} (hb : startOf bss bss.length + needN b.length ≤ 59) (hm : mayM 2 (5 + (bss.length : Int)) = true) :
    RowsP { S with pend := S.pend ++ putP (startOf bss bss.length : Nat) (secB 2 (5 + (bss.length : Int)) b) (needN b.length) } (bss ++ [b]) := by
  obtain ⟨h1, h2, h3, h4, h5⟩ := h
  have hn := need_room b.length
  have hlast : startOf (bss ++ [b]) (bss ++ [b]).length = startOf bss bss.length + needN b.length := by
    have := startOf_next (bss := bss ++ [b]) (j := bss.length) (b := b) (by simp)
    rw [startOf_push (Nat.le_refl _)] at this
    rw [List.length_append]
    exact this
  refine ⟨h1, h2, by rw [hlast]; exact hb, fun j c hj => ?_, fun p hp0 hp1 => ?_⟩
  · by_cases hjl : j < bss.length
    · rw [List.getElem?_append_left hjl] at hj
      rw [startOf_push (by omega)]
      refine fw_keeps (h4 j c hj) (.inr ?_)
      have e := startOf_next hj
      have := startOf_mono bss (show j + 1 ≤ bss.length by omega)
      omega
    · have hj2 : j = bss.length := by
        have := (List.getElem?_eq_some_iff.1 hj).1
        rw [List.length_append] at this
        have h1 : ([b] : List (List UInt8)).length = 1 := rfl
        omega
      subst hj2
      have hc : c = b := by simpa using hj.symm
      subst hc
      rw [startOf_push (Nat.le_refl _)]
      exact fw_holds hm (by omega)
  · rw [hlast] at hp0
    rw [read_out (.inr (by omega))]
    exact h5 p (by omega) hp1
theorem RowsP.none {S : DS} {bss : List (List UInt8)} (h : RowsP S bss) {r : Int × Int × List UInt8 × Int × Int} (hr : FrR S (startOf bss bss.length : Nat) 60 r) : r.2.2.2.2 = 2 := by
  obtain ⟨h1, h2, h3, h4, h5⟩ := h
  unfold FrR at hr
  rw [if_neg (by rw [h2]; omega)] at hr
  obtain ⟨ge, gq, gb, parts, ger, hg, rfl⟩ := hr
  have hz : ¬ okP S (startOf bss bss.length : Nat) 0 := by
    intro hk
    have h6 := hk.1
    unfold oAt at h6
    rw [show ((startOf bss bss.length : Nat) : Int) + ((0 : Nat) : Int) = (startOf bss bss.length : Nat) by omega, h5 _ (Int.le_refl _) (by omega)] at h6
    rw [openR_bad (show openOk zr32 = false by decide)] at h6
    cases h6
  rcases hg with ⟨h6, _⟩ | ⟨_, ⟨n, h7, _, h8, _⟩ | ⟨k, _, _, _, rfl, rfl, rfl, rfl, rfl⟩⟩
  · rw [h1.1] at h6; cases h6
  · exact absurd (h8 0 (by omega)).2 hz
  · rfl
set_option maxRecDepth 100000 in
set_option maxHeartbeats 1000000 in
theorem frows_spec {w0 w : World} {I : Imm} {L : Own} (hst : St w0 w I L) {vl : Value} {ls : List Int} (hl : RdI I vl ls) (hls : ∀ x ∈ ls, i64ok x) (n : Int) (hn : i64ok n) :
    Calls Try.prog 4 #[vl, .int .i64 n] w fun e w' => e = .returned (.bool true) ∧ ∃ I', I.le I' ∧ St w0 w' I' L := by
  refine enter Try.func4 rfl (N := 121) rfl rfl ?_
  simp only [List.zipIdx_cons, List.zipIdx_nil, List.map_cons, List.map_nil, Nat.zero_add, Nat.reduceAdd]
  have hle := Imm.le.refl I
  refine CW.seq ?_
  -- region 0
  refine CW.region ?_
  refine RW.op1 rfl (runs_assign rfl) ?_
  refine RW.done ?_
  refine AQ.next ?_
  refine CW.seq ?_
  -- region 1
  refine CW.region ?_
  refine RW.call rfl call10 rfl rfl (new_spec hst 60) ?_
  rintro e w ⟨_, Ld1, rfl, _, hstn, hd1, a1, rfl⟩
  clear hst
  have hst := hstn
  clear hstn
  refine ⟨_, rfl, ?_⟩
  refine RW.op1 rfl (runs_assign rfl) ?_
  refine RW.done ?_
  refine AQ.next ?_
  refine CW.seq ?_
  refine CW.seq ?_
  -- region 2
  refine CW.region ?_
  refine RW.op1 rfl (runs_move rfl) ?_
  refine RW.op1 rfl (runs_eq_nilptr Try.underlying26 rfl) ?_
  refine RW.done ?_
  refine AQ.next ?_
  refine CW.cond rfl (fun hc => absurd hc (by rw [(show (Option.isNone (some a1)) = false from rfl)]; decide)) (fun hc => ?_)
  refine CW.skip ?_
  refine AQ.next ?_
  refine CW.seq ?_
  -- region 4
  refine CW.region ?_
  refine RW.op1 rfl (runs_assign rfl) ?_
  refine RW.op1 rfl (runs_assign rfl) ?_
  refine RW.done ?_
  refine AQ.next ?_
  refine CW.seq ?_
  -- region 5
  refine CW.region ?_
  refine RW.op1 rfl (runs_assign rfl) ?_
  refine RW.done ?_
  refine AQ.next ?_
  refine CW.seq ?_
  refine CW.seq ?_
  -- region 6
  refine CW.region ?_
  refine RW.op1 rfl (runs_assign rfl) ?_
  refine RW.done ?_
  refine AQ.next ?_
  refine CW.block ?_
  -- loop 1
  refine CW.loop (Imm × Own × DS × Own × Value × List Value × List (List UInt8)) (fun x w => I.le x.1 ∧ St w0 w x.1 (x.2.1 ++ (x.2.2.2.1 ++ L)) ∧ DiskO (.pointer (some a1)) x.2.2.1 x.2.1 ∧ Grow 24 1 x.2.2.2.2.1 x.2.2.2.2.2.1.length x.2.2.2.2.2.1 x.2.2.2.1 ∧ RV x.1 x.2.2.2.2.2.1 x.2.2.2.2.2.2 ∧ RowsP x.2.2.1 x.2.2.2.2.2.2 ∧ x.2.2.2.2.2.2.length ≤ 12 ∧ x.2.2.1.pend.length ≤ 60 * x.2.2.2.2.2.2.length) (fun x => [(0, vl), (1, .int .i64 n), (5, .pointer (some a1)), (6, .int .i64 ((startOf x.2.2.2.2.2.2 x.2.2.2.2.2.2.length : Nat) : Int)), (7, .int .i64 (x.2.2.2.2.2.2.length : Nat)), (8, x.2.2.2.2.1), (9, .int .i64 (x.2.2.2.2.2.2.length : Nat))]) (fun x => 12 - x.2.2.2.2.2.2.length) ⟨(I, Ld1, newR 60, [], _, [], []), ⟨hle, hst, hd1, Grow.nil _ 1, RV.nil _, RowsP.start, Nat.zero_le _, Nat.zero_le _⟩, ⟨rfl, rfl, rfl, rfl, rfl, rfl, rfl, trivial⟩⟩ ?_
  clear hle hst hd1
  rintro ⟨J, Ld, S, LB, vb, vs, bss⟩ w ⟨hle, hst, hd, hg, hrv, hrows, hb12, hpn⟩
  dsimp only at hle hst hd hg hrv hrows hb12 hpn ⊢
  have hl5 := RdL.mono hle hl
  have hJ := Imm.le.refl J
  have hvl := hrv.1
  have hup := hrows.1
  have hsl := hrows.2.1
  have hst59 := hrows.2.2.1
  refine CW.seq ?_
  refine CW.seq ?_
  -- region 7
  refine CW.cut Unit (fun _ w => St w0 w J (Ld ++ (LB ++ L))) (fun _ => [(0, vl), (1, .int .i64 n), (5, .pointer (some a1)), (6, .int .i64 ((startOf bss bss.length : Nat) : Int)), (7, .int .i64 (bss.length : Nat)), (8, vb), (9, .int .i64 (bss.length : Nat)), (32, .bool (decide (bss.length < ls.length ∧ bss.length < 12)))]) ?_ ?_
  · -- region 7
    refine CW.region ?_
    refine RW.op1 rfl (runs_move rfl) ?_
    refine RW.op1 rfl (runs_move rfl) ?_
    refine RW.op1 rfl (RdL.len Try.underlying40 rfl hl5) ?_
    refine RW.op1 rfl (runs_lss rfl rfl) ?_
    refine RW.op1 rfl (runs_move rfl) ?_
    refine RW.split (t := 29) rfl (fun hb29 => ?_) (fun hb29 => ?_)
    · have hb29p := hb29
      try simp only [decide_eq_true_eq, decide_eq_false_iff_not] at hb29p
      refine RW.on_guard rfl rfl rfl rfl hb29 ?_
      refine RW.op1 rfl (runs_move rfl) ?_
      refine RW.on_guard rfl rfl rfl rfl hb29 ?_
      refine RW.op1 rfl (runs_lss rfl rfl) ?_
      refine RW.op1 rfl (runs_pick_true rfl hb29 rfl) ?_
      refine RW.done ?_
      exact AQ.meet () hst ⟨rfl, rfl, rfl, rfl, rfl, rfl, rfl, boolN (by simp only [decide_eq_true_eq, true_iff, Bool.false_eq_true, false_iff]; omega), trivial⟩
    · have hb29p := hb29
      try simp only [decide_eq_true_eq, decide_eq_false_iff_not] at hb29p
      refine RW.off_guard rfl rfl rfl rfl hb29 ?_
      refine RW.off_guard rfl rfl rfl rfl hb29 ?_
      refine RW.op1 rfl (runs_pick_false rfl hb29 rfl) ?_
      refine RW.done ?_
      exact AQ.meet () hst ⟨rfl, rfl, rfl, rfl, rfl, rfl, rfl, boolN (by simp only [decide_eq_true_eq, true_iff, Bool.false_eq_true, false_iff]; omega), trivial⟩
  · rintro _ w hstn
    clear hst
    have hst := hstn
    clear hstn
    refine AQ.next ?_
    refine CW.cond rfl (fun hc32 => ?_) (fun hc32 => ?_)
    · have hcb32 := hc32
      try simp only [decide_eq_true_eq, decide_eq_false_iff_not] at hc32
      have hol : i64ok (iat ls ((bss.length : Nat) : Int)) := hls _ (iat_mem hc32.1)
      refine CW.skip ?_
      refine AQ.next ?_
      refine CW.seq ?_
      refine CW.block ?_
      refine CW.seq ?_
      -- region 9
      refine CW.region ?_
      refine RW.op1 rfl (runs_move rfl) ?_
      refine RW.op1 rfl (runs_move rfl) ?_
      refine RW.op1 rfl (runs_addW rfl rfl) ?_
      refine RW.op1 rfl (runs_move rfl) ?_
      refine RW.op1 rfl (runs_move rfl) ?_
      refine RW.op1 rfl (RdL.indexAddr Try.underlying40 ti3 (by decide) rfl rfl hl5 (by omega)) ?_
      refine RW.op1 rfl (runs_load1 sc3 rfl (hst.cell_imm (RdI.at hl5 (by omega) (by omega)))) ?_
      refine RW.call rfl call13 rfl rfl (within_spec hst (v := iat ls ((bss.length : Nat) : Int)) (n := 70) hol (by unfold i64ok; decide)) ?_
      rintro e w ⟨rfl, hstn⟩
      clear hst
      have hst := hstn
      clear hstn
      have hw := within_range (iat ls ((bss.length : Nat) : Int)) 70
      generalize hx : within (iat ls ((bss.length : Nat) : Int)) 70 = x at *
      refine ⟨_, rfl, ?_⟩
      refine RW.call rfl call17 rfl rfl (bytes_spec hst (IntKind.i64.wrap (n + ((bss.length : Nat) : Int))) x (i64ok_wrap _) (by omega)) ?_
      rintro e w ⟨I3, vB, hI3, rfl, hstn, hB⟩
      clear hst
      have hst := hstn
      clear hstn
      have hBl : (bytesOf (IntKind.i64.wrap (n + ((bss.length : Nat) : Int))) x).length = x.toNat := bytesOf_length _ _
      generalize bytesOf (IntKind.i64.wrap (n + ((bss.length : Nat) : Int))) x = b at hB hBl
      have hnr := need_room b.length
      replace hJ := hJ.mono hI3
      replace hle := hle.trans hI3
      refine ⟨_, rfl, ?_⟩
      refine RW.op1 rfl (runs_assign rfl) ?_
      refine RW.done ?_
      refine AQ.next ?_
      refine CW.seq ?_
      refine CW.seq ?_
      -- region 10
      refine CW.region ?_
      refine RW.op1 rfl (runs_move rfl) ?_
      refine RW.op1 rfl (runs_move rfl) ?_
      refine RW.call rfl call9 rfl rfl (need_spec hst hB (by omega)) ?_
      rintro e w ⟨rfl, hstn⟩
      clear hst
      have hst := hstn
      clear hstn
      refine ⟨_, rfl, ?_⟩
      refine RW.op1 rfl (runs_add rfl rfl (by omega)) ?_
      refine RW.op1 rfl (runs_gtr rfl rfl) ?_
      refine RW.done ?_
      refine AQ.next ?_
      refine CW.cond rfl (fun hc48 => ?_) (fun hc48 => ?_)
      · have hcb48 := hc48
        try simp only [decide_eq_true_eq, decide_eq_false_iff_not] at hc48
        skip
        refine CW.exit ?_
        refine AQ.past_exit ?_
        refine AQ.block_miss rfl ?_
        refine AQ.past_exit ?_
        refine AQ.past_exit ?_
        refine AQ.block_hit ?_
        refine AQ.next ?_
        refine CW.seq ?_
        -- region 15
        refine CW.region ?_
        refine RW.op1 rfl (runs_assign rfl) ?_
        refine RW.done ?_
        refine AQ.next ?_
        refine CW.seq ?_
        refine CW.seq ?_
        -- region 16
        refine CW.region ?_
        refine RW.op1 rfl (runs_assign rfl) ?_
        refine RW.done ?_
        refine AQ.next ?_
        refine CW.block ?_
        -- loop 2
        refine CW.loop (Nat × Imm) (fun x w => I.le x.2 ∧ J.le x.2 ∧ St w0 w x.2 (Ld ++ (LB ++ L)) ∧ x.1 ≤ bss.length) (fun x => [(5, .pointer (some a1)), (6, .int .i64 ((startOf bss x.1 : Nat) : Int)), (7, .int .i64 (bss.length : Nat)), (8, vb), (13, .int .i64 (x.1 : Int))]) (fun x => bss.length - x.1) ⟨(0, _), ⟨hle, by assumption, hst, Nat.zero_le _⟩, ⟨rfl, rfl, rfl, rfl, rfl, trivial⟩⟩ ?_
        clear hle hJ hst
        rintro ⟨j, I8⟩ w ⟨hle, hJ, hst, hj⟩
        dsimp only at hle hJ hst hj ⊢
        refine CW.seq ?_
        refine CW.seq ?_
        -- region 17
        refine CW.region ?_
        refine RW.op1 rfl (runs_move rfl) ?_
        refine RW.op1 rfl (runs_move rfl) ?_
        refine RW.op1 rfl (runs_lss rfl rfl) ?_
        refine RW.done ?_
        refine AQ.next ?_
        refine CW.cond rfl (fun hc78 => ?_) (fun hc78 => ?_)
        · have hcb78 := hc78
          try simp only [decide_eq_true_eq, decide_eq_false_iff_not] at hc78
          have hj1 : j < bss.length := by omega
          obtain ⟨c, hc⟩ : ∃ c, bss[j]? = some c := ⟨_, List.getElem?_eq_getElem hj1⟩
          obtain ⟨u, hu⟩ : ∃ u, vs[j]? = some u := ⟨_, List.getElem?_eq_getElem (by omega)⟩
          have hsn := startOf_next hc
          have hsm := startOf_mono bss (show j + 1 ≤ bss.length by omega)
          have hh := hrows.2.2.2.1 j c hc
          have hcl : c.length ≤ 5000 := by
            have h := hh.2.1
            have := need_room c.length
            omega
          refine CW.skip ?_
          refine AQ.next ?_
          refine CW.seq ?_
          refine CW.block ?_
          refine CW.seq ?_
          -- region 19
          refine CW.region ?_
          refine RW.op1 rfl (runs_move rfl) ?_
          refine RW.op1 rfl (runs_move rfl) ?_
          refine RW.call rfl call18 rfl rfl (fread_spec hd hst ((startOf bss j : Nat) : Int) 60) ?_
          rintro e w ⟨I5, vR, re, rq, rb, rn, rer, hI5, rfl, hstn, hR, hfr⟩
          clear hst
          have hst := hstn
          clear hstn
          have hrr := hh.read hup.1 (by omega) (by omega) (by rw [hsl]; decide) hfr
          simp only [Prod.mk.injEq] at hrr
          obtain ⟨rfl, rfl, rfl, rfl, rfl⟩ := hrr
          replace hJ := hJ.mono hI5
          replace hle := hle.trans hI5
          refine ⟨_, rfl, ?_⟩
          refine RW.op1 rfl (runs_move rfl) ?_
          refine RW.op1 rfl (runs_extract rfl rfl) ?_
          refine RW.op1 rfl (runs_extract rfl rfl) ?_
          refine RW.op1 rfl (runs_extract rfl rfl) ?_
          refine RW.op1 rfl (runs_extract rfl rfl) ?_
          refine RW.opE rfl (runs_alloc ti32 hst) ?_
          rintro _ w ⟨b6, rfl, hstn⟩
          clear hst
          have hst := hstn
          clear hstn
          first
            | refine RW.opE0 (runs_storeW ti32 rfl rfl hst (k := 0) rfl rfl rfl (NoFz.zero _) rfl) ?_
            | refine RW.opE0 (runs_storeP ti32 rfl rfl hst (k := 0) rfl rfl rfl (NoFz.zero _) rfl) ?_
            | refine RW.opE0 (runs_storeW ti32 rfl rfl hst (k := 1) rfl rfl rfl (NoFz.zero _) rfl) ?_
            | refine RW.opE0 (runs_storeP ti32 rfl rfl hst (k := 1) rfl rfl rfl (NoFz.zero _) rfl) ?_
            | refine RW.opE0 (runs_storeW ti32 rfl rfl hst (k := 2) rfl rfl rfl (NoFz.zero _) rfl) ?_
            | refine RW.opE0 (runs_storeP ti32 rfl rfl hst (k := 2) rfl rfl rfl (NoFz.zero _) rfl) ?_
          rintro w hstn
          clear hst
          have hst := hstn
          clear hstn
          try simp only [List.set_cons_zero, List.set_cons_succ] at hst
          refine RW.op1 rfl (runs_assign rfl) ?_
          refine RW.op1 rfl (runs_assign rfl) ?_
          refine RW.op1 rfl (runs_assign rfl) ?_
          refine RW.done ?_
          refine AQ.next ?_
          refine CW.seq ?_
          refine CW.seq ?_
          -- region 20
          refine CW.region ?_
          refine RW.op1 rfl (runs_move rfl) ?_
          refine RW.op1 rfl (runs_neI rfl rfl) ?_
          refine RW.op1 rfl (runs_move rfl) ?_
          have hk91 := (show decide ((0 : Int) ≠ 0) = false by decide)
          refine RW.on_guard rfl rfl rfl rfl hk91 ?_
          first
            | refine RW.op1 rfl (runs_loadN (vs := [_, _]) ag32 ti32 rfl hst (k := 0) rfl rfl rfl) ?_
            | refine RW.op1 rfl (runs_loadN (vs := [_, _]) ag32 ti32 rfl hst (k := 1) rfl rfl rfl) ?_
            | refine RW.op1 rfl (runs_loadN (vs := [_, _]) ag32 ti32 rfl hst (k := 2) rfl rfl rfl) ?_
          refine RW.on_guard rfl rfl rfl rfl hk91 ?_
          refine RW.op1 rfl (runs_move rfl) ?_
          refine RW.on_guard rfl rfl rfl rfl hk91 ?_
          refine RW.op1 rfl (runs_add rfl rfl (by omega)) ?_
          refine RW.on_guard rfl rfl rfl rfl hk91 ?_
          refine RW.op1 rfl (runs_buildF (cells := [_, _]) bz32 rfl rfl rfl rfl rfl) ?_
          refine RW.on_guard rfl rfl rfl rfl hk91 ?_
          refine RW.op1 rfl (runs_neZ (xs := [2, 5 + (j : Int)]) (ys := [2, 5 + (j : Int)]) ez32 rfl rfl rfl rfl) ?_
          refine RW.op1 rfl (runs_pick_false rfl hk91 rfl) ?_
          refine RW.op1 rfl (runs_move rfl) ?_
          have hk98 := (show (!decide (([2, 5 + (j : Int)] : List Int) = [2, 5 + (j : Int)])) = false by simp)
          refine RW.on_guard rfl rfl rfl rfl hk98 ?_
          refine RW.op1 rfl (runs_move rfl) ?_
          refine RW.on_guard rfl rfl rfl rfl hk98 ?_
          refine RW.op1 rfl (runs_move rfl) ?_
          refine RW.on_guard rfl rfl rfl rfl hk98 ?_
          refine RW.op1 rfl (runs_move rfl) ?_
          refine RW.on_guard rfl rfl rfl rfl hk98 ?_
          refine RW.op1 rfl (Grow.indexAddr Try.underlying41 ti24 hg rfl rfl (by omega)) ?_
          refine RW.on_guard rfl rfl rfl rfl hk98 ?_
          refine RW.op1 rfl (Grow.load1 sc24 hg rfl hst (fun p hp => by simp [hp]) (by rw [Int.toNat_natCast, Nat.mul_one]; exact hu)) ?_
          refine RW.on_guard rfl rfl rfl rfl hk98 ?_
          refine RW.call rfl call14 rfl rfl (same_spec hst hR ((hrv.mono hJ).2 j u _ hu hc) (by omega)) ?_
          rintro e w ⟨rfl, hstn⟩
          clear hst
          have hst := hstn
          clear hstn
          refine ⟨_, rfl, ?_⟩
          refine RW.on_guard rfl rfl rfl rfl hk98 ?_
          refine RW.op1 rfl (runs_not rfl) ?_
          refine RW.op1 rfl (runs_pick_false rfl hk98 rfl) ?_
          refine RW.done ?_
          refine AQ.next ?_
          refine CW.cond rfl (fun hc => absurd hc (by simp)) (fun hc => ?_)
          refine CW.skip ?_
          refine AQ.next ?_
          -- region 22
          refine CW.region ?_
          refine RW.op1 rfl (runs_move rfl) ?_
          refine RW.op1 rfl (runs_assign rfl) ?_
          refine RW.done ?_
          refine AQ.block_normal ?_
          refine AQ.next ?_
          -- region 18
          refine CW.region ?_
          refine RW.op1 rfl (runs_move rfl) ?_
          refine RW.op1 rfl (runs_add rfl rfl (by omega)) ?_
          refine RW.op1 rfl (runs_assign rfl) ?_
          refine RW.done ?_
          exact AQ.again (x := (j, I8)) (j + 1, _) ⟨hle, hJ, hst.drop1, by omega⟩ ⟨rfl, by rw [hsn]; rfl, rfl, rfl, rfl, trivial⟩ (by dsimp only; omega)
        · have hcb78 := hc78
          try simp only [decide_eq_true_eq, decide_eq_false_iff_not] at hc78
          obtain rfl : j = bss.length := by omega
          refine CW.exit ?_
          refine AQ.past_exit ?_
          refine AQ.past_exit ?_
          refine AQ.block_hit ?_
          refine AQ.next ?_
          refine CW.seq ?_
          -- region 23
          refine CW.region ?_
          refine RW.op1 rfl (runs_move rfl) ?_
          refine RW.op1 rfl (runs_move rfl) ?_
          refine RW.call rfl call18 rfl rfl (fread_spec hd hst ((startOf bss bss.length : Nat) : Int) 60) ?_
          rintro e w ⟨I9, vR, re, rq, rb, rn, rer, hI9, rfl, hstn, hR, hfr⟩
          clear hst
          have hst := hstn
          clear hstn
          have hrr : rer = 2 := hrows.none hfr
          subst hrr
          replace hJ := hJ.mono hI9
          replace hle := hle.trans hI9
          refine ⟨_, rfl, ?_⟩
          refine RW.op1 rfl (runs_move rfl) ?_
          refine RW.op1 rfl (runs_extract rfl rfl) ?_
          refine RW.op1 rfl (runs_extract rfl rfl) ?_
          refine RW.op1 rfl (runs_extract rfl rfl) ?_
          refine RW.op1 rfl (runs_extract rfl rfl) ?_
          refine RW.opE rfl (runs_alloc ti32 hst) ?_
          rintro _ w ⟨b10, rfl, hstn⟩
          clear hst
          have hst := hstn
          clear hstn
          first
            | refine RW.opE0 (runs_storeW ti32 rfl rfl hst (k := 0) rfl rfl rfl (NoFz.zero _) rfl) ?_
            | refine RW.opE0 (runs_storeP ti32 rfl rfl hst (k := 0) rfl rfl rfl (NoFz.zero _) rfl) ?_
            | refine RW.opE0 (runs_storeW ti32 rfl rfl hst (k := 1) rfl rfl rfl (NoFz.zero _) rfl) ?_
            | refine RW.opE0 (runs_storeP ti32 rfl rfl hst (k := 1) rfl rfl rfl (NoFz.zero _) rfl) ?_
            | refine RW.opE0 (runs_storeW ti32 rfl rfl hst (k := 2) rfl rfl rfl (NoFz.zero _) rfl) ?_
            | refine RW.opE0 (runs_storeP ti32 rfl rfl hst (k := 2) rfl rfl rfl (NoFz.zero _) rfl) ?_
          rintro w hstn
          clear hst
          have hst := hstn
          clear hstn
          try simp only [List.set_cons_zero, List.set_cons_succ] at hst
          refine RW.op1 rfl (runs_assign rfl) ?_
          refine RW.op1 rfl (runs_assign rfl) ?_
          refine RW.op1 rfl (runs_assign rfl) ?_
          refine RW.done ?_
          refine AQ.next ?_
          refine CW.seq ?_
          -- region 24
          refine CW.region ?_
          refine RW.op1 rfl (runs_move rfl) ?_
          refine RW.op1 rfl (runs_eqI rfl rfl) ?_
          refine RW.op1 rfl (runs_move rfl) ?_
          have hk118 := (show decide ((2 : Int) = 2) = true by decide)
          refine RW.on_guard rfl rfl rfl rfl hk118 ?_
          refine RW.call rfl call16 rfl rfl (wakes03_spec hst) ?_
          rintro e w ⟨I12, hI12, rfl, hstn⟩
          clear hst
          have hst := hstn
          clear hstn
          replace hJ := hJ.mono hI12
          replace hle := hle.trans hI12
          refine ⟨_, rfl, ?_⟩
          refine RW.op1 rfl (runs_pick_true rfl hk118 rfl) ?_
          refine RW.op1 rfl (runs_assign rfl) ?_
          refine RW.done ?_
          refine AQ.next ?_
          refine CW.ret ?_
          refine AQ.ret1 rfl rfl ?_
          exact ⟨rfl, _, hle, hst.drop1.sub ((List.sublist_append_right _ _).trans (List.sublist_append_right _ _))⟩
      · have hcb48 := hc48
        try simp only [decide_eq_true_eq, decide_eq_false_iff_not] at hc48
        have hroom : startOf bss bss.length + needN b.length ≤ 59 := by omega
        have hn255 : needN b.length ≤ 255 := by omega
        refine CW.skip ?_
        refine AQ.next ?_
        refine CW.seq ?_
        -- region 11
        refine CW.region ?_
        refine RW.op1 rfl (runs_move rfl) ?_
        refine RW.op1 rfl (runs_move rfl) ?_
        refine RW.op1 rfl (runs_move rfl) ?_
        refine RW.op1 rfl (runs_add rfl rfl (by omega)) ?_
        refine RW.op1 rfl (runs_buildF (cells := [_, _]) bz32 rfl rfl rfl rfl rfl) ?_
        refine RW.op1 rfl (runs_move rfl) ?_
        refine RW.call rfl call11 rfl rfl (fwrite_spec hd hst ((startOf bss bss.length : Nat) : Int) 2 (5 + ((bss.length : Nat) : Int)) (by unfold i64ok; omega) hB (by omega) (by omega)) ?_
        rintro e w ⟨I13, Ld2, S2, nx, er, hI13, rfl, hstn, hd2, hfw⟩
        clear hst
        have hst := hstn
        clear hstn
        clear hw
        have hroom2 : ((startOf bss bss.length : Nat) : Int) + (needN b.length : Nat) ≤ S.secs.length := by rw [hsl]; omega
        have hmm : mayM 2 (5 + ((bss.length : Nat) : Int)) = true := by unfold mayM; simp; omega
        obtain ⟨hS2, hnx, her⟩ := fw_ok hup hmm hn255 (Int.natCast_nonneg _) hroom2 hfw
        rw [hnx, her]
        have hrows2 := hrows.push hroom hmm
        rw [← hS2] at hrows2
        replace hJ := hJ.mono hI13
        replace hB := hB.mono hI13
        replace hle := hle.trans hI13
        refine ⟨_, rfl, ?_⟩
        refine RW.op1 rfl (runs_move rfl) ?_
        refine RW.op1 rfl (runs_extract rfl rfl) ?_
        refine RW.op1 rfl (runs_extract rfl rfl) ?_
        refine RW.op1 rfl (runs_assign rfl) ?_
        refine RW.op1 rfl (runs_assign rfl) ?_
        refine RW.done ?_
        refine AQ.next ?_
        refine CW.seq ?_
        refine CW.seq ?_
        -- region 12
        refine CW.region ?_
        refine RW.op1 rfl (runs_move rfl) ?_
        refine RW.op1 rfl (runs_neI rfl rfl) ?_
        refine RW.op1 rfl (runs_move rfl) ?_
        have hk61 := (show decide ((0 : Int) ≠ 0) = false by decide)
        refine RW.on_guard rfl rfl rfl rfl hk61 ?_
        refine RW.op1 rfl (runs_move rfl) ?_
        refine RW.on_guard rfl rfl rfl rfl hk61 ?_
        refine RW.op1 rfl (runs_move rfl) ?_
        refine RW.on_guard rfl rfl rfl rfl hk61 ?_
        refine RW.op1 rfl (runs_move rfl) ?_
        refine RW.on_guard rfl rfl rfl rfl hk61 ?_
        refine RW.call rfl call9 rfl rfl (need_spec hst hB (by omega)) ?_
        rintro e w ⟨rfl, hstn⟩
        clear hst
        have hst := hstn
        clear hstn
        refine ⟨_, rfl, ?_⟩
        refine RW.on_guard rfl rfl rfl rfl hk61 ?_
        refine RW.op1 rfl (runs_add rfl rfl (by omega)) ?_
        refine RW.on_guard rfl rfl rfl rfl hk61 ?_
        refine RW.op1 rfl (runs_neI rfl rfl) ?_
        refine RW.op1 rfl (runs_pick_false rfl hk61 rfl) ?_
        refine RW.done ?_
        refine AQ.next ?_
        refine CW.cond rfl (fun hc => absurd hc (by simp)) (fun hc => ?_)
        refine CW.skip ?_
        refine AQ.next ?_
        -- region 14
        refine CW.region ?_
        refine RW.op1 rfl (runs_move rfl) ?_
        refine RW.op1 rfl (runs_move rfl) ?_
        refine RW.opE rfl (runs_lit1R Try.underlying41 ti24 (by decide) rfl rfl rfl (fun u hu => by rw [List.mem_singleton.1 hu]; exact RdL.one hB) hst) ?_
        rintro u15 w ⟨I15, hI15, hstn, h15⟩
        clear hst
        have hst := hstn
        clear hstn
        replace hJ := hJ.mono hI15
        replace hB := hB.mono hI15
        replace hle := hle.trans hI15
        have hV := h15
        refine RW.opE rfl (runs_appendR Try.underlying41 ti24 rfl (by decide) rfl rfl (hst.perm (List.perm_append_comm_assoc _ _ _)) hg hV (by omega) (by unfold maxLen; omega)) ?_
        rintro u16 w ⟨Lv16, hstn, hg16⟩
        clear hst
        have hst := hstn
        clear hstn
        have hgN : Grow 24 1 u16 (vs ++ [vB]).length (vs ++ [vB]) Lv16 := by rw [List.length_append]; exact hg16
        replace hst := hst.perm (List.perm_append_comm_assoc _ _ _)
        refine RW.op1 rfl (runs_move rfl) ?_
        refine RW.op1 rfl (runs_move rfl) ?_
        refine RW.op1 rfl (runs_add rfl rfl (by omega)) ?_
        refine RW.op1 rfl (runs_assign rfl) ?_
        refine RW.op1 rfl (runs_assign rfl) ?_
        refine RW.op1 rfl (runs_assign rfl) ?_
        refine RW.done ?_
        refine AQ.block_normal ?_
        refine AQ.next ?_
        -- region 8
        refine CW.region ?_
        refine RW.op1 rfl (runs_move rfl) ?_
        refine RW.op1 rfl (runs_add rfl rfl (by omega)) ?_
        refine RW.op1 rfl (runs_assign rfl) ?_
        refine RW.done ?_
        have hlast : startOf (bss ++ [b]) (bss ++ [b]).length = startOf bss bss.length + needN b.length := by
          have := startOf_next (bss := bss ++ [b]) (j := bss.length) (b := b) (by simp)
          rw [startOf_push (Nat.le_refl _)] at this
          rw [List.length_append]
          exact this
        have hpl : S2.pend.length ≤ 60 * (bss ++ [b]).length := by
          rw [hS2, List.length_append, List.length_append, putP_len]
          show _ ≤ 60 * (_ + 1)
          omega
        have hbl1 : (bss ++ [b]).length = bss.length + 1 := List.length_append
        exact AQ.again (x := (J, Ld, S, LB, vb, vs, bss)) (_, Ld2, S2, _, _, vs ++ [vB], bss ++ [b]) ⟨hle, hst, hd2, hgN, (hrv.mono hJ).push hB, hrows2, by dsimp only; omega, hpl⟩ ⟨rfl, rfl, rfl, by rw [hlast]; rfl, by rw [hbl1]; rfl, rfl, by rw [hbl1]; rfl, trivial⟩ (by dsimp only; omega)
    · have hcb32 := hc32
      try simp only [decide_eq_true_eq, decide_eq_false_iff_not] at hc32
      skip
      refine CW.exit ?_
      refine AQ.past_exit ?_
      refine AQ.past_exit ?_
      refine AQ.block_hit ?_
      refine AQ.next ?_
      refine CW.seq ?_
      -- region 15
      refine CW.region ?_
      refine RW.op1 rfl (runs_assign rfl) ?_
      refine RW.done ?_
      refine AQ.next ?_
      refine CW.seq ?_
      refine CW.seq ?_
      -- region 16
      refine CW.region ?_
      refine RW.op1 rfl (runs_assign rfl) ?_
      refine RW.done ?_
      refine AQ.next ?_
      refine CW.block ?_
      -- loop 3
      refine CW.loop (Nat × Imm) (fun x w => I.le x.2 ∧ J.le x.2 ∧ St w0 w x.2 (Ld ++ (LB ++ L)) ∧ x.1 ≤ bss.length) (fun x => [(5, .pointer (some a1)), (6, .int .i64 ((startOf bss x.1 : Nat) : Int)), (7, .int .i64 (bss.length : Nat)), (8, vb), (13, .int .i64 (x.1 : Int))]) (fun x => bss.length - x.1) ⟨(0, _), ⟨hle, by assumption, hst, Nat.zero_le _⟩, ⟨rfl, rfl, rfl, rfl, rfl, trivial⟩⟩ ?_
      clear hle hJ hst
      rintro ⟨j, I8⟩ w ⟨hle, hJ, hst, hj⟩
      dsimp only at hle hJ hst hj ⊢
      refine CW.seq ?_
      refine CW.seq ?_
      -- region 17
      refine CW.region ?_
      refine RW.op1 rfl (runs_move rfl) ?_
      refine RW.op1 rfl (runs_move rfl) ?_
      refine RW.op1 rfl (runs_lss rfl rfl) ?_
      refine RW.done ?_
      refine AQ.next ?_
      refine CW.cond rfl (fun hc78 => ?_) (fun hc78 => ?_)
      · have hcb78 := hc78
        try simp only [decide_eq_true_eq, decide_eq_false_iff_not] at hc78
        have hj1 : j < bss.length := by omega
        obtain ⟨c, hc⟩ : ∃ c, bss[j]? = some c := ⟨_, List.getElem?_eq_getElem hj1⟩
        obtain ⟨u, hu⟩ : ∃ u, vs[j]? = some u := ⟨_, List.getElem?_eq_getElem (by omega)⟩
        have hsn := startOf_next hc
        have hsm := startOf_mono bss (show j + 1 ≤ bss.length by omega)
        have hh := hrows.2.2.2.1 j c hc
        have hcl : c.length ≤ 5000 := by
          have h := hh.2.1
          have := need_room c.length
          omega
        refine CW.skip ?_
        refine AQ.next ?_
        refine CW.seq ?_
        refine CW.block ?_
        refine CW.seq ?_
        -- region 19
        refine CW.region ?_
        refine RW.op1 rfl (runs_move rfl) ?_
        refine RW.op1 rfl (runs_move rfl) ?_
        refine RW.call rfl call18 rfl rfl (fread_spec hd hst ((startOf bss j : Nat) : Int) 60) ?_
        rintro e w ⟨I17, vR, re, rq, rb, rn, rer, hI17, rfl, hstn, hR, hfr⟩
        clear hst
        have hst := hstn
        clear hstn
        have hrr := hh.read hup.1 (by omega) (by omega) (by rw [hsl]; decide) hfr
        simp only [Prod.mk.injEq] at hrr
        obtain ⟨rfl, rfl, rfl, rfl, rfl⟩ := hrr
        replace hJ := hJ.mono hI17
        replace hle := hle.trans hI17
        refine ⟨_, rfl, ?_⟩
        refine RW.op1 rfl (runs_move rfl) ?_
        refine RW.op1 rfl (runs_extract rfl rfl) ?_
        refine RW.op1 rfl (runs_extract rfl rfl) ?_
        refine RW.op1 rfl (runs_extract rfl rfl) ?_
        refine RW.op1 rfl (runs_extract rfl rfl) ?_
        refine RW.opE rfl (runs_alloc ti32 hst) ?_
        rintro _ w ⟨b18, rfl, hstn⟩
        clear hst
        have hst := hstn
        clear hstn
        first
          | refine RW.opE0 (runs_storeW ti32 rfl rfl hst (k := 0) rfl rfl rfl (NoFz.zero _) rfl) ?_
          | refine RW.opE0 (runs_storeP ti32 rfl rfl hst (k := 0) rfl rfl rfl (NoFz.zero _) rfl) ?_
          | refine RW.opE0 (runs_storeW ti32 rfl rfl hst (k := 1) rfl rfl rfl (NoFz.zero _) rfl) ?_
          | refine RW.opE0 (runs_storeP ti32 rfl rfl hst (k := 1) rfl rfl rfl (NoFz.zero _) rfl) ?_
          | refine RW.opE0 (runs_storeW ti32 rfl rfl hst (k := 2) rfl rfl rfl (NoFz.zero _) rfl) ?_
          | refine RW.opE0 (runs_storeP ti32 rfl rfl hst (k := 2) rfl rfl rfl (NoFz.zero _) rfl) ?_
        rintro w hstn
        clear hst
        have hst := hstn
        clear hstn
        try simp only [List.set_cons_zero, List.set_cons_succ] at hst
        refine RW.op1 rfl (runs_assign rfl) ?_
        refine RW.op1 rfl (runs_assign rfl) ?_
        refine RW.op1 rfl (runs_assign rfl) ?_
        refine RW.done ?_
        refine AQ.next ?_
        refine CW.seq ?_
        refine CW.seq ?_
        -- region 20
        refine CW.region ?_
        refine RW.op1 rfl (runs_move rfl) ?_
        refine RW.op1 rfl (runs_neI rfl rfl) ?_
        refine RW.op1 rfl (runs_move rfl) ?_
        have hk91 := (show decide ((0 : Int) ≠ 0) = false by decide)
        refine RW.on_guard rfl rfl rfl rfl hk91 ?_
        first
          | refine RW.op1 rfl (runs_loadN (vs := [_, _]) ag32 ti32 rfl hst (k := 0) rfl rfl rfl) ?_
          | refine RW.op1 rfl (runs_loadN (vs := [_, _]) ag32 ti32 rfl hst (k := 1) rfl rfl rfl) ?_
          | refine RW.op1 rfl (runs_loadN (vs := [_, _]) ag32 ti32 rfl hst (k := 2) rfl rfl rfl) ?_
        refine RW.on_guard rfl rfl rfl rfl hk91 ?_
        refine RW.op1 rfl (runs_move rfl) ?_
        refine RW.on_guard rfl rfl rfl rfl hk91 ?_
        refine RW.op1 rfl (runs_add rfl rfl (by omega)) ?_
        refine RW.on_guard rfl rfl rfl rfl hk91 ?_
        refine RW.op1 rfl (runs_buildF (cells := [_, _]) bz32 rfl rfl rfl rfl rfl) ?_
        refine RW.on_guard rfl rfl rfl rfl hk91 ?_
        refine RW.op1 rfl (runs_neZ (xs := [2, 5 + (j : Int)]) (ys := [2, 5 + (j : Int)]) ez32 rfl rfl rfl rfl) ?_
        refine RW.op1 rfl (runs_pick_false rfl hk91 rfl) ?_
        refine RW.op1 rfl (runs_move rfl) ?_
        have hk98 := (show (!decide (([2, 5 + (j : Int)] : List Int) = [2, 5 + (j : Int)])) = false by simp)
        refine RW.on_guard rfl rfl rfl rfl hk98 ?_
        refine RW.op1 rfl (runs_move rfl) ?_
        refine RW.on_guard rfl rfl rfl rfl hk98 ?_
        refine RW.op1 rfl (runs_move rfl) ?_
        refine RW.on_guard rfl rfl rfl rfl hk98 ?_
        refine RW.op1 rfl (runs_move rfl) ?_
        refine RW.on_guard rfl rfl rfl rfl hk98 ?_
        refine RW.op1 rfl (Grow.indexAddr Try.underlying41 ti24 hg rfl rfl (by omega)) ?_
        refine RW.on_guard rfl rfl rfl rfl hk98 ?_
        refine RW.op1 rfl (Grow.load1 sc24 hg rfl hst (fun p hp => by simp [hp]) (by rw [Int.toNat_natCast, Nat.mul_one]; exact hu)) ?_
        refine RW.on_guard rfl rfl rfl rfl hk98 ?_
        refine RW.call rfl call14 rfl rfl (same_spec hst hR ((hrv.mono hJ).2 j u _ hu hc) (by omega)) ?_
        rintro e w ⟨rfl, hstn⟩
        clear hst
        have hst := hstn
        clear hstn
        refine ⟨_, rfl, ?_⟩
        refine RW.on_guard rfl rfl rfl rfl hk98 ?_
        refine RW.op1 rfl (runs_not rfl) ?_
        refine RW.op1 rfl (runs_pick_false rfl hk98 rfl) ?_
        refine RW.done ?_
        refine AQ.next ?_
        refine CW.cond rfl (fun hc => absurd hc (by simp)) (fun hc => ?_)
        refine CW.skip ?_
        refine AQ.next ?_
        -- region 22
        refine CW.region ?_
        refine RW.op1 rfl (runs_move rfl) ?_
        refine RW.op1 rfl (runs_assign rfl) ?_
        refine RW.done ?_
        refine AQ.block_normal ?_
        refine AQ.next ?_
        -- region 18
        refine CW.region ?_
        refine RW.op1 rfl (runs_move rfl) ?_
        refine RW.op1 rfl (runs_add rfl rfl (by omega)) ?_
        refine RW.op1 rfl (runs_assign rfl) ?_
        refine RW.done ?_
        exact AQ.again (x := (j, I8)) (j + 1, _) ⟨hle, hJ, hst.drop1, by omega⟩ ⟨rfl, by rw [hsn]; rfl, rfl, rfl, rfl, trivial⟩ (by dsimp only; omega)
      · have hcb78 := hc78
        try simp only [decide_eq_true_eq, decide_eq_false_iff_not] at hc78
        obtain rfl : j = bss.length := by omega
        refine CW.exit ?_
        refine AQ.past_exit ?_
        refine AQ.past_exit ?_
        refine AQ.block_hit ?_
        refine AQ.next ?_
        refine CW.seq ?_
        -- region 23
        refine CW.region ?_
        refine RW.op1 rfl (runs_move rfl) ?_
        refine RW.op1 rfl (runs_move rfl) ?_
        refine RW.call rfl call18 rfl rfl (fread_spec hd hst ((startOf bss bss.length : Nat) : Int) 60) ?_
        rintro e w ⟨I21, vR, re, rq, rb, rn, rer, hI21, rfl, hstn, hR, hfr⟩
        clear hst
        have hst := hstn
        clear hstn
        have hrr : rer = 2 := hrows.none hfr
        subst hrr
        replace hJ := hJ.mono hI21
        replace hle := hle.trans hI21
        refine ⟨_, rfl, ?_⟩
        refine RW.op1 rfl (runs_move rfl) ?_
        refine RW.op1 rfl (runs_extract rfl rfl) ?_
        refine RW.op1 rfl (runs_extract rfl rfl) ?_
        refine RW.op1 rfl (runs_extract rfl rfl) ?_
        refine RW.op1 rfl (runs_extract rfl rfl) ?_
        refine RW.opE rfl (runs_alloc ti32 hst) ?_
        rintro _ w ⟨b22, rfl, hstn⟩
        clear hst
        have hst := hstn
        clear hstn
        first
          | refine RW.opE0 (runs_storeW ti32 rfl rfl hst (k := 0) rfl rfl rfl (NoFz.zero _) rfl) ?_
          | refine RW.opE0 (runs_storeP ti32 rfl rfl hst (k := 0) rfl rfl rfl (NoFz.zero _) rfl) ?_
          | refine RW.opE0 (runs_storeW ti32 rfl rfl hst (k := 1) rfl rfl rfl (NoFz.zero _) rfl) ?_
          | refine RW.opE0 (runs_storeP ti32 rfl rfl hst (k := 1) rfl rfl rfl (NoFz.zero _) rfl) ?_
          | refine RW.opE0 (runs_storeW ti32 rfl rfl hst (k := 2) rfl rfl rfl (NoFz.zero _) rfl) ?_
          | refine RW.opE0 (runs_storeP ti32 rfl rfl hst (k := 2) rfl rfl rfl (NoFz.zero _) rfl) ?_
        rintro w hstn
        clear hst
        have hst := hstn
        clear hstn
        try simp only [List.set_cons_zero, List.set_cons_succ] at hst
        refine RW.op1 rfl (runs_assign rfl) ?_
        refine RW.op1 rfl (runs_assign rfl) ?_
        refine RW.op1 rfl (runs_assign rfl) ?_
        refine RW.done ?_
        refine AQ.next ?_
        refine CW.seq ?_
        -- region 24
        refine CW.region ?_
        refine RW.op1 rfl (runs_move rfl) ?_
        refine RW.op1 rfl (runs_eqI rfl rfl) ?_
        refine RW.op1 rfl (runs_move rfl) ?_
        have hk118 := (show decide ((2 : Int) = 2) = true by decide)
        refine RW.on_guard rfl rfl rfl rfl hk118 ?_
        refine RW.call rfl call16 rfl rfl (wakes03_spec hst) ?_
        rintro e w ⟨I24, hI24, rfl, hstn⟩
        clear hst
        have hst := hstn
        clear hstn
        replace hJ := hJ.mono hI24
        replace hle := hle.trans hI24
        refine ⟨_, rfl, ?_⟩
        refine RW.op1 rfl (runs_pick_true rfl hk118 rfl) ?_
        refine RW.op1 rfl (runs_assign rfl) ?_
        refine RW.done ?_
        refine AQ.next ?_
        refine CW.ret ?_
        refine AQ.ret1 rfl rfl ?_
        exact ⟨rfl, _, hle, hst.drop1.sub ((List.sublist_append_right _ _).trans (List.sublist_append_right _ _))⟩
end Go.Proofs.YtcbndkllppmmmaaX
