/- Any values as bytes, any bytes as values, as the document says: the walk. -/
import Derived.Test.YtoegloebnnjflaaT
import Derived.Test.YtoegloebnnjflaaAB
namespace Go.Proofs.YtoegloebnnjflaaX
set_option linter.unusedVariables false
set_option linter.unusedSimpArgs false
open Go Go.RowKit Go.Proofs

theorem decF_props : ∀ (n : Nat) (b : List UInt8) (av : List AV), decF n b = some av → (∀ a ∈ av, a.good 255 false) ∧ av.length ≤ b.length
  | 0, b, av, h => by
    unfold decF at h
    split at h
    · cases h; exact ⟨by simp, Nat.zero_le _⟩
    · cases h
  | n + 1, b, av, h => by
    unfold decF at h
    split at h
    · cases h; exact ⟨by simp, Nat.zero_le _⟩
    · rename_i hb
      cases hd : dec1 b with
      | none => rw [hd] at h; cases h
      | some x =>
        obtain ⟨a, k⟩ := x
        rw [hd] at h
        simp only [Option.map_eq_some_iff] at h
        obtain ⟨r, hr, rfl⟩ := h
        obtain ⟨h1, h2⟩ := decF_props n _ r hr
        have hk := dec1_pos hd
        have hp : 0 < b.length := List.length_pos_iff.2 hb
        rw [List.length_drop] at h2
        refine ⟨fun x hx => ?_, by rw [List.length_cons]; omega⟩
        rcases List.mem_cons.1 hx with rfl | hx
        · exact dec1_good hd
        · exact h1 x hx
theorem decA_good (b : List UInt8) : ∀ a ∈ (decA b).getD [], a.good 255 false := by
  cases h : decA b with
  | none => simp
  | some av => exact (decF_props _ b av h).1
theorem decA_len (b : List UInt8) : ((decA b).getD []).length ≤ b.length := by
  cases h : decA b with
  | none => exact Nat.zero_le _
  | some av => exact (decF_props _ b av h).2
theorem getD4_max {a b c d : List UInt8} {m : Nat} (ha : a.length ≤ m) (hb : b.length ≤ m) (hc : c.length ≤ m) (hd : d.length ≤ m) (k : Nat) : ([a, b, c, d].getD k []).length ≤ m := by
  match k with
  | 0 => exact ha
  | 1 => exact hb
  | 2 => exact hc
  | 3 => exact hd
  | _ + 4 => exact Nat.zero_le _
theorem not_enc {o : Bool} (h : (!o) = true) : decide ((if o then (0 : Int) else 1) ≠ 1) = false := by cases o with
  | false => rfl
  | true => cases h
theorem not_dec {o : Bool} (h : (!o) = true) : decide ((if o then (0 : Int) else 2) ≠ 2) = false := by cases o with
  | false => rfl
  | true => cases h
theorem encs (o : Bool) : decide ((if o then (0 : Int) else 1) = 0) = o := by cases o <;> rfl
theorem decs (o : Bool) : decide ((if o then (0 : Int) else 2) = 0) = o := by cases o <;> rfl
set_option maxRecDepth 100000 in
set_option maxHeartbeats 1000000 in
theorem ctells_spec {w0 w : World} {I : Imm} {L : Own} (hst : St w0 w I L) {vl : Value} {xl : List Int} (hl : RdI I vl xl) (hxl : ∀ n ∈ xl, i64ok n) (hll : xl.length ≤ 9223372036854775807) (s : ByteArray) (bad : Int) (hbad : i64ok bad) {vr : Value} {rb : List UInt8} (hr : RdB I vr rb) (hrl : rb.length ≤ 1048576) (at_ : Int) (hat : i64ok at_) (c : UInt8) :
    Calls Try.prog 6 #[vl, .string s, .int .i64 bad, vr, .int .i64 at_, .int .u8 (c.toNat : Int)] w fun e w' => e = .returned (.bool true) ∧ ∃ I', I.le I' ∧ St w0 w' I' L := by
  refine enter Try.func6 rfl (N := 139) rfl rfl ?_
  simp only [List.zipIdx_cons, List.zipIdx_nil, List.map_cons, List.map_nil, Nat.zero_add, Nat.reduceAdd]
  have hle := Imm.le.refl I
  refine CW.seq ?_
  -- region 0
  refine CW.region ?_
  refine RW.op1 rfl (runs_assign rfl) ?_
  refine RW.done ?_
  refine AQ.next ?_
  refine CW.seq ?_
  -- region 1
  refine CW.region ?_
  refine RW.op1 rfl (runs_move rfl) ?_
  refine RW.call rfl call9 rfl rfl (text_spec hst s (n := 300) (by decide)) ?_
  rintro e w ⟨s1, rfl, hs1, hstn⟩
  clear hst
  have hst := hstn
  clear hstn
  have hz1 : s1.size ≤ 300 := by rw [← size_toList, hs1, List.length_take]; show min 300 _ ≤ 300; omega
  refine ⟨_, rfl, ?_⟩
  refine RW.op1 rfl (runs_assign rfl) ?_
  refine RW.done ?_
  refine AQ.next ?_
  refine CW.seq ?_
  -- region 2
  refine CW.region ?_
  refine RW.op1 rfl (runs_move rfl) ?_
  refine RW.op1 rfl (runs_move rfl) ?_
  refine RW.op1 rfl (runs_move rfl) ?_
  refine RW.call rfl call8 rfl rfl (values_spec hst hl hxl hll s1 (by omega) bad hbad true (fun h => by cases h)) ?_
  rintro e w ⟨I2, va, av, hI2, rfl, hstn, hA, hga, hal⟩
  clear hst
  have hst := hstn
  clear hstn
  replace hr := hr.mono hI2
  replace hle := hle.trans hI2
  refine ⟨_, rfl, ?_⟩
  refine RW.op1 rfl (runs_assign rfl) ?_
  refine RW.done ?_
  refine AQ.next ?_
  refine CW.seq ?_
  -- region 3
  refine CW.region ?_
  refine RW.op1 rfl (runs_move rfl) ?_
  refine RW.call rfl call10 rfl rfl (enc_spec hst hA hga (by omega)) ?_
  rintro e w ⟨I3, vX, hI3, rfl, hstn, hX⟩
  clear hst
  have hst := hstn
  clear hstn
  replace hr := hr.mono hI3
  replace hA := hA.mono hI3
  replace hle := hle.trans hI3
  refine ⟨_, rfl, ?_⟩
  refine RW.op1 rfl (runs_move rfl) ?_
  refine RW.op1 rfl (runs_extract rfl rfl) ?_
  refine RW.op1 rfl (runs_extract rfl rfl) ?_
  refine RW.op1 rfl (runs_assign rfl) ?_
  refine RW.op1 rfl (runs_assign rfl) ?_
  refine RW.done ?_
  refine AQ.next ?_
  refine CW.seq ?_
  -- region 4
  refine CW.region ?_
  refine RW.op1 rfl (runs_move rfl) ?_
  refine RW.call rfl call20 rfl rfl (refs_spec hst hA hga (by omega)) ?_
  rintro e w ⟨I4, vF, hI4, rfl, hstn, hF1⟩
  clear hst
  have hst := hstn
  clear hstn
  replace hr := hr.mono hI4
  replace hA := hA.mono hI4
  replace hX := hX.mono hI4
  replace hle := hle.trans hI4
  refine ⟨_, rfl, ?_⟩
  refine RW.call rfl call19 rfl rfl (refenc_spec hst hF1 hga (by omega)) ?_
  rintro e w ⟨IE, vD, hIE, rfl, hstn, hD⟩
  clear hst
  have hst := hstn
  clear hstn
  have hdl : (if encOk av then encA av else []).length ≤ 5000 := by
    cases ho : encOk av
    · exact Nat.zero_le _
    · rw [if_pos rfl]; have := encA_le ho; omega
  replace hr := hr.mono hIE
  replace hA := hA.mono hIE
  replace hX := hX.mono hIE
  replace hF1 := hF1.mono hIE
  replace hle := hle.trans hIE
  refine ⟨_, rfl, ?_⟩
  refine RW.op1 rfl (runs_move rfl) ?_
  refine RW.op1 rfl (runs_extract rfl rfl) ?_
  refine RW.op1 rfl (runs_extract rfl rfl) ?_
  refine RW.op1 rfl (runs_assign rfl) ?_
  refine RW.op1 rfl (runs_assign rfl) ?_
  refine RW.done ?_
  refine AQ.next ?_
  refine CW.seq ?_
  refine CW.seq ?_
  -- region 5
  refine CW.cut Unit (fun _ w => St w0 w IE L) (fun _ => [(16, vD), (61, .bool false), (3, vr), (4, .int .i64 at_), (5, .int .u8 (c.toNat : Int))]) ?_ ?_
  · -- region 5
    refine CW.region ?_
    refine RW.op1 rfl (runs_move rfl) ?_
    refine RW.op1 rfl (runs_eqI rfl rfl) ?_
    rw [encs]
    refine RW.op1 rfl (runs_move rfl) ?_
    refine RW.op1 rfl (runs_neB Try.underlying4 rfl rfl) ?_
    refine RW.op1 rfl (runs_move rfl) ?_
    have hk48 := (show (!(encOk av == encOk av)) = false by simp)
    refine RW.on_guard rfl rfl rfl rfl hk48 ?_
    refine RW.op1 rfl (runs_move rfl) ?_
    refine RW.on_guard rfl rfl rfl rfl hk48 ?_
    refine RW.op1 rfl (runs_not rfl) ?_
    refine RW.on_guard rfl rfl rfl rfl hk48 ?_
    refine RW.op1 rfl (runs_move rfl) ?_
    refine RW.split (t := 51) rfl (fun hb51 => ?_) (fun hb51 => ?_)
    · have hb51p := hb51
      try simp only [decide_eq_true_eq, decide_eq_false_iff_not] at hb51p
      refine RW.on_guard rfl rfl rfl rfl hb51 ?_
      refine RW.op1 rfl (runs_move rfl) ?_
      refine RW.on_guard rfl rfl rfl rfl hb51 ?_
      refine RW.op1 rfl (runs_neI rfl rfl) ?_
      refine RW.on_guard rfl rfl rfl rfl hk48 ?_
      refine RW.op1 rfl (runs_pick_true rfl hb51 rfl) ?_
      refine RW.op1 rfl (runs_pick_false rfl hk48 rfl) ?_
      refine RW.op1 rfl (runs_move rfl) ?_
      have hk56 := (by first | rfl | (exact not_enc (by assumption)))
      refine RW.on_guard rfl rfl rfl rfl hk56 ?_
      refine RW.op1 rfl (runs_move rfl) ?_
      refine RW.on_guard rfl rfl rfl rfl hk56 ?_
      refine RW.op1 rfl (runs_move rfl) ?_
      refine RW.on_guard rfl rfl rfl rfl hk56 ?_
      refine RW.call rfl call11 rfl rfl (same_spec hst hX hD (by omega)) ?_
      rintro e w ⟨rfl, hstn⟩
      clear hst
      have hst := hstn
      clear hstn
      refine ⟨_, rfl, ?_⟩
      refine RW.on_guard rfl rfl rfl rfl hk56 ?_
      refine RW.op1 rfl (runs_not rfl) ?_
      refine RW.op1 rfl (runs_pick_false rfl hk56 rfl) ?_
      refine RW.done ?_
      exact AQ.meet () hst ⟨rfl, (by first | rfl | (rw [decide_eq_true rfl]; rfl)), rfl, rfl, rfl, trivial⟩
    · have hb51p := hb51
      try simp only [decide_eq_true_eq, decide_eq_false_iff_not] at hb51p
      refine RW.off_guard rfl rfl rfl rfl hb51 ?_
      refine RW.off_guard rfl rfl rfl rfl hb51 ?_
      refine RW.on_guard rfl rfl rfl rfl hk48 ?_
      refine RW.op1 rfl (runs_pick_false rfl hb51 rfl) ?_
      refine RW.op1 rfl (runs_pick_false rfl hk48 rfl) ?_
      refine RW.op1 rfl (runs_move rfl) ?_
      refine RW.on_guard rfl rfl rfl rfl rfl ?_
      refine RW.op1 rfl (runs_move rfl) ?_
      refine RW.on_guard rfl rfl rfl rfl rfl ?_
      refine RW.op1 rfl (runs_move rfl) ?_
      refine RW.on_guard rfl rfl rfl rfl rfl ?_
      refine RW.call rfl call11 rfl rfl (same_spec hst hX hD (by omega)) ?_
      rintro e w ⟨rfl, hstn⟩
      clear hst
      have hst := hstn
      clear hstn
      refine ⟨_, rfl, ?_⟩
      refine RW.on_guard rfl rfl rfl rfl rfl ?_
      refine RW.op1 rfl (runs_not rfl) ?_
      refine RW.op1 rfl (runs_pick_false rfl rfl rfl) ?_
      refine RW.done ?_
      exact AQ.meet () hst ⟨rfl, (by first | rfl | (rw [decide_eq_true rfl]; rfl)), rfl, rfl, rfl, trivial⟩
  · rintro _ w hstn
    clear hst
    have hst := hstn
    clear hstn
    refine AQ.next ?_
    refine CW.cond rfl (fun hc => absurd hc (by decide)) (fun hc => ?_)
    refine CW.skip ?_
    refine AQ.next ?_
    refine CW.seq ?_
    -- region 7
    refine CW.region ?_
    refine RW.op1 rfl (runs_move rfl) ?_
    refine RW.call rfl call12 rfl rfl (copy_own hst hD (by omega)) ?_
    rintro e w ⟨vX2, LX, rfl, hstn, hgX⟩
    clear hst
    have hst := hstn
    clear hstn
    generalize (if encOk av then encA av else []) = dd at *
    refine ⟨_, rfl, ?_⟩
    refine RW.op1 rfl (runs_assign rfl) ?_
    refine RW.done ?_
    refine AQ.next ?_
    refine CW.seq ?_
    refine CW.seq ?_
    -- region 8
    refine CW.region ?_
    refine RW.op1 rfl (runs_move rfl) ?_
    refine RW.op1 rfl (Grow.len Try.underlying26 rfl hgX) ?_
    refine RW.op1 rfl (runs_gtr rfl rfl) ?_
    refine RW.done ?_
    refine AQ.next ?_
    refine CW.cut (Value × List UInt8 × Own) (fun y w => St w0 w IE (y.2.2 ++ L) ∧ GrowB 5 y.1 y.2.1 y.2.2 ∧ y.2.1.length ≤ 5000) (fun y => [(16, vD), (18, y.1), (3, vr), (4, .int .i64 at_), (5, .int .u8 (c.toNat : Int))]) ?_ ?_
    · refine CW.cond rfl (fun hc66 => ?_) (fun hc66 => ?_)
      · have hcb66 := hc66
        try simp only [decide_eq_true_eq, decide_eq_false_iff_not] at hc66
        -- region 9
        refine CW.region ?_
        refine RW.op1 rfl (runs_move rfl) ?_
        refine RW.op1 rfl (runs_move rfl) ?_
        refine RW.op1 rfl (runs_move rfl) ?_
        refine RW.op1 rfl (Grow.len Try.underlying26 rfl hgX) ?_
        refine RW.call rfl call14 rfl rfl (within_spec hst (v := at_) (n := dd.length) hat (by unfold i64ok; omega)) ?_
        rintro e w ⟨rfl, hstn⟩
        clear hst
        have hst := hstn
        clear hstn
        have hw71 := within_range at_ (dd.length : Int)
        generalize within at_ (dd.length : Int) = x71 at *
        refine ⟨_, rfl, ?_⟩
        obtain ⟨x, hxd⟩ : ∃ x, x = dd := ⟨_, rfl⟩
        rw [← hxd] at hgX
        have hxl3 : x.length = dd.length := by rw [hxd]
        obtain ⟨g, cap, cur, rfl, rfl, hcs, hget, hset⟩ := GrowB.opened hgX (by omega)
        have hgp := hget x71.toNat (by omega)
        refine RW.op1 rfl (runs_indexAddr0 Try.underlying26 ti5 rfl rfl (by omega)) ?_
        refine RW.op1 rfl (runs_load1 sc5 rfl (hst.cell_own (k := 0) rfl (by rw [Nat.zero_add, Nat.mul_one]; exact hgp))) ?_
        refine RW.op1 rfl (runs_move rfl) ?_
        refine RW.op1 rfl (runs_xor rfl rfl) ?_
        refine RW.op1 rfl (runs_indexAddr0 Try.underlying26 ti5 rfl rfl (by omega)) ?_
        refine RW.opE0 (runs_store1' ti5 rfl rfl hst (k := 0) rfl (by omega) (NoFz.zero _) rfl) ?_
        rintro w hstn
        clear hst
        have hst := hstn
        clear hstn
        try simp only [List.set_cons_zero, List.set_cons_succ] at hst
        rw [xor8] at hst
        simp only [Nat.zero_add, Nat.mul_one, List.cons_append, List.nil_append, List.set_cons_zero] at hst
        have hg9 := hset x71.toNat (x.getD x71.toNat 0 ^^^ c) (by omega)
        have hxl9 : (x.set x71.toNat (x.getD x71.toNat 0 ^^^ c)).length ≤ 5000 := by rw [List.length_set]; omega
        refine RW.done ?_
        first
          | exact AQ.meet (_, _, [(_, _)]) ⟨hst, hg9, hxl9⟩ ⟨rfl, rfl, rfl, rfl, rfl, trivial⟩
          | exact AQ.meet (_, _, _) ⟨hst, hgX, hdl⟩ ⟨rfl, rfl, rfl, rfl, rfl, trivial⟩
      · have hcb66 := hc66
        try simp only [decide_eq_true_eq, decide_eq_false_iff_not] at hc66
        refine CW.skip ?_
        first
          | exact AQ.meet (_, _, [(_, _)]) ⟨hst, hg9, hxl9⟩ ⟨rfl, rfl, rfl, rfl, rfl, trivial⟩
          | exact AQ.meet (_, _, _) ⟨hst, hgX, hdl⟩ ⟨rfl, rfl, rfl, rfl, rfl, trivial⟩
    · rintro ⟨vx, x, Lx⟩ w ⟨hstn, hg, hxl2⟩
      dsimp only at hstn hg hxl2 ⊢
      clear hst
      have hst := hstn
      clear hstn
      refine AQ.next ?_
      refine CW.seq ?_
      refine CW.seq ?_
      -- region 10
      refine CW.cut (Imm × Value × List Value × Nat) (fun y w => I.le y.1 ∧ St w0 w y.1 L ∧ y.2.2.2 ≤ dd.length ∧ RdR y.1 y.2.1 y.2.2.1 [dd, x, rb, dd.take y.2.2.2]) (fun y => [(87, y.2.1), (88, .int .i64 y.2.2.1.length), (89, .int .i64 0)]) ?_ ?_
      · -- region 10
        refine CW.region ?_
        obtain ⟨I20, hI20, hstn, hZ⟩ := GrowB.freeze hg hst
        clear hst
        have hst := hstn
        clear hstn
        replace hD := hD.mono hI20
        replace hr := hr.mono hI20
        replace hle := hle.trans hI20
        refine RW.op1 rfl (runs_move rfl) ?_
        refine RW.op1 rfl (runs_move rfl) ?_
        refine RW.op1 rfl (runs_move rfl) ?_
        refine RW.op1 rfl (runs_move rfl) ?_
        refine RW.op1 rfl (runs_move rfl) ?_
        refine RW.op1 rfl (runs_move rfl) ?_
        refine RW.op1 rfl (RdL.len Try.underlying26 rfl hD) ?_
        refine RW.op1 rfl (runs_add rfl rfl (by omega)) ?_
        refine RW.call rfl call14 rfl rfl (within_spec hst (v := at_) (n := (dd.length : Int) + 1) hat (by unfold i64ok; omega)) ?_
        rintro e w ⟨rfl, hstn⟩
        clear hst
        have hst := hstn
        clear hstn
        have hw85 := within_range at_ ((dd.length : Int) + 1)
        generalize within at_ ((dd.length : Int) + 1) = x85 at *
        refine ⟨_, rfl, ?_⟩
        have hp86 : RdB _ (partV _ 0 x85.toNat 1) (dd.take x85.toNat) := RdB.part hD (by omega) (by omega)
        refine RW.op1 rfl (RdL.slice_h Try.underlying26 ti5 rfl rfl hD (by omega)) ?_
        refine RW.opE rfl (runs_lit1R (xs := [_, _, _, _]) Try.underlying45 ti26 (by decide) rfl rfl rfl (one4 hD.one hZ.one hr.one hp86.one) hst) ?_
        rintro u12 w ⟨I12, hI12, hstn, h12⟩
        clear hst
        have hst := hstn
        clear hstn
        replace hD := hD.mono hI12
        replace hr := hr.mono hI12
        replace hZ := hZ.mono hI12
        replace hp86 := hp86.mono hI12
        replace hle := hle.trans hI12
        have hR := rows4 h12 hD hZ hr hp86
        refine RW.op1 rfl (RdL.len Try.underlying45 rfl hR.1) ?_
        refine RW.op1 rfl (runs_move rfl) ?_
        refine RW.done ?_
        exact AQ.meet (_, _, _, x85.toNat) ⟨hle, hst, (show x85.toNat ≤ dd.length by omega), hR⟩ ⟨rfl, rfl, rfl, trivial⟩
      · rintro ⟨J, vR, vs, kx⟩ w ⟨hle, hstn, hkx, hR⟩
        dsimp only at hle hstn hkx hR ⊢
        clear hst
        have hst := hstn
        clear hstn
        have hvl : vs.length = 4 := hR.2.1
        have hle0 := hle
        refine AQ.next ?_
        refine CW.block ?_
        -- loop 1
        refine CW.loop (Nat × Imm) (fun x w => J.le x.2 ∧ St w0 w x.2 L ∧ x.1 ≤ 4) (fun x => [(87, vR), (88, .int .i64 vs.length), (89, .int .i64 (x.1 : Int))]) (fun x => 4 - x.1) ⟨(0, J), ⟨Imm.le.refl _, hst, by omega⟩, ⟨rfl, rfl, rfl, trivial⟩⟩ ?_
        rintro ⟨k, I5⟩ w ⟨hle, hstn, hk⟩
        dsimp only at hle hstn hk ⊢
        clear hst
        have hst := hstn
        clear hstn
        have hR5 := hR.mono hle
        refine CW.seq ?_
        -- region 11
        refine CW.region ?_
        refine RW.op1 rfl (runs_lss rfl rfl) ?_
        refine RW.done ?_
        refine AQ.next ?_
        refine CW.seq ?_
        refine CW.cond rfl (fun hc90 => ?_) (fun hc90 => ?_)
        · have hcb90 := hc90
          try simp only [decide_eq_true_eq, decide_eq_false_iff_not] at hc90
          obtain ⟨y, hy, hyl⟩ : ∃ y, RdB I5 (vs.getD (k : Int).toNat (.slice none 0 0)) y ∧ y.length ≤ 1048576 := ⟨_, hR5.row (by omega), getD4_max (by omega) (by omega) hrl (by rw [List.length_take]; omega) _⟩
          obtain ⟨o, ho⟩ : ∃ o, decA y = o := ⟨_, rfl⟩
          have hog := decA_good y
          have hol := decA_len y
          rw [ho] at hog hol
          refine CW.skip ?_
          refine AQ.next ?_
          refine CW.seq ?_
          refine CW.block ?_
          refine CW.seq ?_
          -- region 12
          refine CW.region ?_
          refine RW.op1 rfl (RdL.indexAddr Try.underlying45 ti26 (by decide) rfl rfl hR5.1 (by omega)) ?_
          refine RW.op1 rfl (runs_load1 sc26 rfl (hst.cell_imm (RdR.at hR5 (by omega) (by omega)))) ?_
          refine RW.op1 rfl (runs_assign rfl) ?_
          refine RW.done ?_
          refine AQ.next ?_
          refine CW.seq ?_
          -- region 13
          refine CW.region ?_
          refine RW.op1 rfl (runs_move rfl) ?_
          refine RW.call rfl call18 rfl rfl (dec_spec hst hy (by omega)) ?_
          rintro e w ⟨I13, vW, hI13, rfl, hstn, hW⟩
          clear hst
          have hst := hstn
          clear hstn
          replace hy := hy.mono hI13
          rw [ho] at hW ⊢
          replace hle := hle.trans hI13
          refine ⟨_, rfl, ?_⟩
          refine RW.op1 rfl (runs_move rfl) ?_
          refine RW.op1 rfl (runs_extract rfl rfl) ?_
          refine RW.op1 rfl (runs_extract rfl rfl) ?_
          refine RW.op1 rfl (runs_assign rfl) ?_
          refine RW.op1 rfl (runs_assign rfl) ?_
          refine RW.done ?_
          refine AQ.next ?_
          refine CW.seq ?_
          -- region 14
          refine CW.region ?_
          refine RW.op1 rfl (runs_move rfl) ?_
          refine RW.call rfl call21 rfl rfl (refdec_spec hst hy (by omega)) ?_
          rintro e w ⟨IK, vK, hIK, rfl, hstn, hK⟩
          clear hst
          have hst := hstn
          clear hstn
          rw [ho] at hK ⊢
          replace hW := hW.mono hIK
          replace hy := hy.mono hIK
          replace hle := hle.trans hIK
          refine ⟨_, rfl, ?_⟩
          refine RW.op1 rfl (runs_move rfl) ?_
          refine RW.op1 rfl (runs_extract rfl rfl) ?_
          refine RW.op1 rfl (runs_extract rfl rfl) ?_
          refine RW.op1 rfl (runs_assign rfl) ?_
          refine RW.op1 rfl (runs_assign rfl) ?_
          refine RW.done ?_
          refine AQ.next ?_
          refine CW.seq ?_
          refine CW.seq ?_
          -- region 15
          refine CW.cut Unit (fun _ w => St w0 w IK L) (fun _ => [(21, vW), (23, vK), (87, vR), (88, .int .i64 vs.length), (89, .int .i64 (k : Int)), (121, .bool false)]) ?_ ?_
          · -- region 15
            refine CW.region ?_
            refine RW.op1 rfl (runs_move rfl) ?_
            refine RW.op1 rfl (runs_eqI rfl rfl) ?_
            rw [decs]
            refine RW.op1 rfl (runs_move rfl) ?_
            refine RW.op1 rfl (runs_neB Try.underlying4 rfl rfl) ?_
            refine RW.op1 rfl (runs_move rfl) ?_
            have hk107 := (show (!(o.isSome == o.isSome)) = false by simp)
            refine RW.on_guard rfl rfl rfl rfl hk107 ?_
            refine RW.op1 rfl (runs_move rfl) ?_
            refine RW.on_guard rfl rfl rfl rfl hk107 ?_
            refine RW.op1 rfl (runs_not rfl) ?_
            refine RW.on_guard rfl rfl rfl rfl hk107 ?_
            refine RW.op1 rfl (runs_move rfl) ?_
            refine RW.split (t := 110) rfl (fun hb110 => ?_) (fun hb110 => ?_)
            · have hb110p := hb110
              try simp only [decide_eq_true_eq, decide_eq_false_iff_not] at hb110p
              refine RW.on_guard rfl rfl rfl rfl hb110 ?_
              refine RW.op1 rfl (runs_move rfl) ?_
              refine RW.on_guard rfl rfl rfl rfl hb110 ?_
              refine RW.op1 rfl (runs_neI rfl rfl) ?_
              refine RW.on_guard rfl rfl rfl rfl hk107 ?_
              refine RW.op1 rfl (runs_pick_true rfl hb110 rfl) ?_
              refine RW.op1 rfl (runs_pick_false rfl hk107 rfl) ?_
              refine RW.op1 rfl (runs_move rfl) ?_
              have hk115 := (by first | rfl | (exact not_dec (by assumption)))
              refine RW.on_guard rfl rfl rfl rfl hk115 ?_
              refine RW.op1 rfl (runs_move rfl) ?_
              refine RW.on_guard rfl rfl rfl rfl hk115 ?_
              refine RW.op1 rfl (RdL.len Try.underlying23 rfl hW) ?_
              refine RW.on_guard rfl rfl rfl rfl hk115 ?_
              refine RW.op1 rfl (runs_move rfl) ?_
              refine RW.on_guard rfl rfl rfl rfl hk115 ?_
              refine RW.op1 rfl (RdL.len Try.underlying50 rfl hK) ?_
              refine RW.on_guard rfl rfl rfl rfl hk115 ?_
              refine RW.op1 rfl (runs_neI rfl rfl) ?_
              refine RW.op1 rfl (runs_pick_false rfl hk115 rfl) ?_
              refine RW.done ?_
              exact AQ.meet () hst ⟨rfl, rfl, rfl, rfl, rfl, (by first | rfl | (show some (Value.bool (decide _)) = _; simp)), trivial⟩
            · have hb110p := hb110
              try simp only [decide_eq_true_eq, decide_eq_false_iff_not] at hb110p
              refine RW.off_guard rfl rfl rfl rfl hb110 ?_
              refine RW.off_guard rfl rfl rfl rfl hb110 ?_
              refine RW.on_guard rfl rfl rfl rfl hk107 ?_
              refine RW.op1 rfl (runs_pick_false rfl hb110 rfl) ?_
              refine RW.op1 rfl (runs_pick_false rfl hk107 rfl) ?_
              refine RW.op1 rfl (runs_move rfl) ?_
              refine RW.on_guard rfl rfl rfl rfl rfl ?_
              refine RW.op1 rfl (runs_move rfl) ?_
              refine RW.on_guard rfl rfl rfl rfl rfl ?_
              refine RW.op1 rfl (RdL.len Try.underlying23 rfl hW) ?_
              refine RW.on_guard rfl rfl rfl rfl rfl ?_
              refine RW.op1 rfl (runs_move rfl) ?_
              refine RW.on_guard rfl rfl rfl rfl rfl ?_
              refine RW.op1 rfl (RdL.len Try.underlying50 rfl hK) ?_
              refine RW.on_guard rfl rfl rfl rfl rfl ?_
              refine RW.op1 rfl (runs_neI rfl rfl) ?_
              refine RW.op1 rfl (runs_pick_false rfl rfl rfl) ?_
              refine RW.done ?_
              exact AQ.meet () hst ⟨rfl, rfl, rfl, rfl, rfl, (by first | rfl | (show some (Value.bool (decide _)) = _; simp)), trivial⟩
          · rintro _ w hstn
            clear hst
            have hst := hstn
            clear hstn
            refine AQ.next ?_
            refine CW.cond rfl (fun hc => absurd hc (by decide)) (fun hc => ?_)
            refine CW.skip ?_
            refine AQ.next ?_
            refine CW.seq ?_
            -- region 17
            refine CW.region ?_
            refine RW.op1 rfl (runs_move rfl) ?_
            refine RW.call rfl call20 rfl rfl (refs_spec hst hW hog (by omega)) ?_
            rintro e w ⟨IM, vM, hIM, rfl, hstn, hM⟩
            clear hst
            have hst := hstn
            clear hstn
            generalize o.getD [] = aw at *
            replace hW := hW.mono hIM
            replace hK := hK.mono hIM
            replace hle := hle.trans hIM
            refine ⟨_, rfl, ?_⟩
            refine RW.op1 rfl (RdL.len Try.underlying50 rfl hM) ?_
            refine RW.op1 rfl (runs_move rfl) ?_
            refine RW.done ?_
            refine AQ.next ?_
            refine CW.block ?_
            -- loop 2
            refine CW.loop Nat (fun j w => St w0 w IM L ∧ j ≤ aw.length) (fun j => [(23, vK), (87, vR), (88, .int .i64 vs.length), (89, .int .i64 (k : Int)), (123, vM), (124, .int .i64 aw.length), (125, .int .i64 (j : Int))]) (fun j => aw.length - j) ⟨0, ⟨hst, Nat.zero_le _⟩, ⟨rfl, rfl, rfl, rfl, rfl, rfl, rfl, trivial⟩⟩ ?_
            rintro j w ⟨hstn, hj0⟩
            clear hst
            have hst := hstn
            clear hstn
            refine CW.seq ?_
            -- region 18
            refine CW.region ?_
            refine RW.op1 rfl (runs_lss rfl rfl) ?_
            refine RW.done ?_
            refine AQ.next ?_
            refine CW.seq ?_
            refine CW.cond rfl (fun hc126 => ?_) (fun hc126 => ?_)
            · have hcb126 := hc126
              try simp only [decide_eq_true_eq, decide_eq_false_iff_not] at hc126
              have hj : j < aw.length := by omega
              obtain ⟨a, ha⟩ : ∃ a, aw[j] = a := ⟨_, rfl⟩
              have haj : aw[j]? = some a := by rw [List.getElem?_eq_getElem hj, ha]
              refine CW.skip ?_
              refine AQ.next ?_
              refine CW.seq ?_
              refine CW.block ?_
              refine CW.seq ?_
              -- region 19
              refine CW.region ?_
              refine RW.op1 rfl (runs_move rfl) ?_
              refine RW.op1 rfl (RdL.indexAddr Try.underlying50 ti55 (by decide) rfl rfl hM (by omega)) ?_
              refine RW.op1 rfl (RdL.loadRow (row := refRow a) ag55 ti55 rfl hM hst (refRow_len a) (by intro i u hi; rw [Int.toNat_natCast]; exact RdV.row haj i u hi)) ?_
              refine RW.opE rfl (runs_alloc ti55 hst) ?_
              rintro _ w ⟨b16, rfl, hstn⟩
              clear hst
              have hst := hstn
              clear hstn
              refine RW.op1 rfl (runs_assign rfl) ?_
              refine RW.opE0 (runs_storeW ti55 rfl rfl hst (k := 0) rfl (refRow_len a) rfl (NoFz.zero _) (refRow_all a)) ?_
              rintro w hstn
              clear hst
              have hst := hstn
              clear hstn
              try simp only [List.set_cons_zero, List.set_cons_succ] at hst
              refine RW.done ?_
              refine AQ.next ?_
              refine CW.seq ?_
              -- region 20
              refine CW.drawSt hst (.q 0 (.q 1 (.q 2 (.q 3 (.q 4 (.q 5 .nil)))))) follows (by kernel_rfl) (fun w hst => ?_)
              refine DRW.q rfl rfl (FSt.loadN (vs := refRow a) ag55 ti55 rfl (k := 0) rfl (by cases a <;> rfl) (refRow_len a)) ?_
              refine DRW.q rfl rfl (fun w' hF => runs_move rfl) ?_
              refine DRW.q rfl rfl (fun w' hF => runs_move rfl) ?_
              refine DRW.q rfl rfl (fun w' hF => RdL.indexAddr Try.underlying50 ti55 (by decide) rfl rfl hK (by omega)) ?_
              refine DRW.q rfl rfl ((fun w' hF => match hF with | ⟨_, h1, h2⟩ => RdL.loadRow (row := refRow a) ag55 ti55 rfl (RdL.mono h1 hK) h2 (refRow_len a) (by intro i u hi; rw [Int.toNat_natCast]; exact RdV.row haj i u hi))) ?_
              refine DRW.q rfl rfl (fun w' hF => runs_neM refEM rfl rfl rfl rfl (refRow_ek a) (refRow_ek a)) ?_
              refine DRW.done ?_
              refine AQ.next ?_
              refine CW.cond rfl (fun hc => absurd hc (by rw [ref_same]; decide)) (fun hc => ?_)
              refine CW.skip ?_
              refine AQ.block_normal ?_
              refine AQ.next ?_
              -- region 22
              refine CW.region ?_
              refine RW.op1 rfl (runs_add rfl rfl (by omega)) ?_
              refine RW.op1 rfl (runs_move rfl) ?_
              refine RW.done ?_
              exact AQ.again (x := j) (j + 1) ⟨hst.drop1, by omega⟩ ⟨rfl, rfl, rfl, rfl, rfl, rfl, rfl, trivial⟩ (by omega)
            · have hcb126 := hc126
              try simp only [decide_eq_true_eq, decide_eq_false_iff_not] at hc126
              skip
              refine CW.exit ?_
              refine AQ.past_exit ?_
              refine AQ.past_exit ?_
              refine AQ.block_hit ?_
              refine AQ.block_normal ?_
              refine AQ.next ?_
              -- region 23
              refine CW.region ?_
              refine RW.op1 rfl (runs_add rfl rfl (by omega)) ?_
              refine RW.op1 rfl (runs_move rfl) ?_
              refine RW.done ?_
              exact AQ.again (x := (k, I5)) (k + 1, _) ⟨hle, hst, by omega⟩ ⟨rfl, rfl, rfl, trivial⟩ (by dsimp only; omega)
        · have hcb90 := hc90
          try simp only [decide_eq_true_eq, decide_eq_false_iff_not] at hc90
          skip
          refine CW.exit ?_
          refine AQ.past_exit ?_
          refine AQ.past_exit ?_
          refine AQ.block_hit ?_
          refine AQ.next ?_
          refine CW.seq ?_
          -- region 24
          refine CW.region ?_
          refine RW.call rfl call13 rfl rfl (wakes_spec hst) ?_
          rintro e w ⟨rfl, I18, hI18, hstn⟩
          clear hst
          have hst := hstn
          clear hstn
          replace hle := hle.trans hI18
          refine ⟨_, rfl, ?_⟩
          refine RW.op1 rfl (runs_assign rfl) ?_
          refine RW.done ?_
          refine AQ.next ?_
          refine CW.ret ?_
          refine AQ.ret1 rfl rfl ?_
          exact ⟨rfl, _, hle0.trans hle, hst⟩
end Go.Proofs.YtoegloebnnjflaaX
