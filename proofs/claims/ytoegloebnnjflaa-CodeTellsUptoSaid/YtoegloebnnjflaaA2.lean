/- Values one behind the other are encoded as each alone: the walk. -/
import Derived.Test.YtoegloebnnjflaaT
import Derived.Test.YtoegloebnnjflaaA1
namespace Go.Proofs.YtoegloebnnjflaaX
set_option linter.unusedVariables false
set_option linter.unusedSimpArgs false
open Go Go.RowKit Go.Proofs

theorem isI20 : isIfaceT Try.prog 20 = true := by kernel_rfl
theorem cmpInt : cmpT Try.prog 3 = true := by kernel_rfl
theorem cmpStr : cmpT Try.prog 9 = true := by kernel_rfl
theorem cmpBool : cmpT Try.prog 4 = true := by kernel_rfl
theorem eqAV {a b : AV} {m : Nat} (ha : a.good m false) (hb : b.good m false) (w : World) : (Op.equalIn 10000 20 a.v b.v).run Try.prog w = .ok (a.eqb b) w := by
  rw [show (10000 : Nat) = 9998 + 1 + 1 from rfl]
  cases a <;> cases b
  case num.num a b => exact run_equalIn_iface isI20 cmpInt (run_equalIn_int w 9998 _ .i64 .i64 a b Try.underlying3)
  case txt.txt a b => exact run_equalIn_iface isI20 cmpStr (run_equalIn_string w 9998 _ a b Try.underlying9)
  case flg.flg a b => exact run_equalIn_iface isI20 cmpBool (run_equalIn_bool' w 9998 _ a b Try.underlying4)
  all_goals first
    | exact absurd ha.1 (by decide)
    | exact absurd hb.1 (by decide)
    | exact run_equalIn_iface_ne isI20 (by decide)
theorem runs_eqAV {l : Env} {ty t' : TypeId} {w : World} {x y : Operand} {a b : AV} {m : Nat} (hx : ev l x = some a.v) (hy : ev l y = some b.v) (ha : a.good m false) (hb : b.good m false) : Runs Try.prog (.binOp .eql 20 x y t') ty l w (.value (.bool (a.eqb b))) w := by
  have h := eqAV ha hb
  cases a <;> cases b
  all_goals first
    | exact absurd ha.1 (by decide)
    | exact absurd hb.1 (by decide)
    | exact runs_eqIface isI20 hx hy h
theorem take_step {a b : List AV} {k : Nat} {m : Nat} (hka : k < a.length) (hkb : k < b.length) (ha : ∀ x ∈ a, x.good m false) (hb : ∀ x ∈ b, x.good m false) (hl : a.length = b.length) (ht : a.take k = b.take k) :
    (a[k].eqb b[k] = true ↔ a.length = b.length ∧ a.take (k + 1) = b.take (k + 1)) := by
  have e1 : a.take (k + 1) = b.take k ++ [a[k]] := by rw [List.take_add_one, List.getElem?_eq_getElem hka, ht]; rfl
  have e2 : b.take (k + 1) = b.take k ++ [b[k]] := by rw [List.take_add_one, List.getElem?_eq_getElem hkb]; rfl
  rw [AV.eqb_iff (ha _ (List.getElem_mem _)) (hb _ (List.getElem_mem _)), e1, e2]
  refine ⟨fun h => ⟨hl, by rw [h]⟩, fun h => ?_⟩
  have h3 := List.append_cancel_left h.2
  simpa using h3
theorem fin1 {a b : List AV} {k : Nat} {q : Bool} (hq : q = true ↔ a.length = b.length ∧ a.take k = b.take k) (h : q = true) (hk : a.length ≤ k) : (q = true ↔ a = b) := by
  refine ⟨fun _ => ?_, fun _ => h⟩
  obtain ⟨h1, h2⟩ := hq.1 h
  rwa [List.take_of_length_le hk, List.take_of_length_le (by omega)] at h2
theorem fin2 {a b : List AV} {k : Nat} {q : Bool} (hq : q = true ↔ a.length = b.length ∧ a.take k = b.take k) (h : q = false) : (q = true ↔ a = b) :=
  ⟨fun h1 => absurd (h.symm.trans h1) (by decide), fun h1 => hq.2 (by rw [h1]; exact ⟨rfl, rfl⟩)⟩
theorem joins_fin {a b : List AV} {q : Bool} (ha : ∀ x ∈ a, x.good 255 false) (hb : ∀ x ∈ b, x.good 255 false) (h : q = true ↔ a = b) : (decide (encA a = encA b) == q) = true := by
  cases q with
  | true => rw [h.1 rfl, decide_eq_true rfl]; rfl
  | false => rw [decide_eq_false (fun e => absurd (h.2 (encA_inj (Nat.le_refl 255) ha hb e)) (by decide))]; rfl
set_option maxRecDepth 100000 in
set_option maxHeartbeats 1000000 in
theorem wakes_spec {w0 w : World} {I : Imm} {L : Own} (hst : St w0 w I L) :
    Calls Try.prog 13 #[] w fun e w' => e = .returned (.bool true) ∧ ∃ I', I.le I' ∧ St w0 w' I' L := by
  refine enter Try.func13 rfl (N := 17) rfl rfl ?_
  simp only [List.zipIdx_cons, List.zipIdx_nil, List.map_cons, List.map_nil, Nat.zero_add, Nat.reduceAdd]
  have hle := Imm.le.refl I
  refine CW.seq ?_
  -- region 0
  refine CW.region ?_
  refine RW.op1 rfl (runs_assign rfl) ?_
  refine RW.done ?_
  refine AQ.next ?_
  refine CW.seq ?_
  -- region 1
  refine CW.region ?_
  refine RW.op1 rfl (runs_makeIface con4 rfl) ?_
  refine RW.opE rfl (runs_lit1R Try.underlying23 ti20 (by decide) rfl rfl rfl (by simp [Value.oneCell']) hst) ?_
  rintro u1 w ⟨I1, hI1, hstn, h1⟩
  clear hst
  have hst := hstn
  clear hstn
  replace hle := hle.trans hI1
  refine RW.call rfl call10 rfl rfl (enc_spec (av := [.flg true]) (m := 255) (o := false) hst (by assumption) (fun a ha => by rw [List.mem_singleton.1 ha]; trivial) (by decide)) ?_
  rintro e w ⟨I2, vW, hI2, rfl, hstn, hW⟩
  clear hst
  have hst := hstn
  clear hstn
  rw [show encOk [.flg true] = true from rfl] at hW ⊢; simp only [if_true] at hW ⊢
  replace h1 := h1.mono hI2
  replace hle := hle.trans hI2
  refine ⟨_, rfl, ?_⟩
  refine RW.op1 rfl (runs_move rfl) ?_
  refine RW.op1 rfl (runs_extract rfl rfl) ?_
  refine RW.op1 rfl (runs_extract rfl rfl) ?_
  refine RW.op1 rfl (runs_assign rfl) ?_
  refine RW.op1 rfl (runs_assign rfl) ?_
  refine RW.done ?_
  refine AQ.next ?_
  refine CW.seq ?_
  -- region 2
  refine CW.region ?_
  refine RW.op1 rfl (runs_move rfl) ?_
  refine RW.op1 rfl (runs_eqI rfl rfl) ?_
  refine RW.op1 rfl (runs_move rfl) ?_
  have hk11 := (show decide ((0 : Int) = 0) = true from by decide)
  refine RW.on_guard rfl rfl rfl rfl hk11 ?_
  refine RW.op1 rfl (runs_move rfl) ?_
  refine RW.on_guard rfl rfl rfl rfl hk11 ?_
  refine RW.opE rfl (runs_lit1 (xs := ([116] : List UInt8).map b8) Try.underlying26 ti5 (by decide) rfl rfl rfl (b8_one _) hst) ?_
  rintro u3 w ⟨Lv3, hstn, hg3⟩
  clear hst
  have hst := hstn
  clear hstn
  refine RW.on_guard rfl rfl rfl rfl hk11 ?_
  refine RW.opE rfl (runs_convMark Try.underlying26 Try.underlying5 rfl hst (by assumption) (by decide)) ?_
  rintro u4 w ⟨I4, hI4, hstn, h4⟩
  clear hst
  have hst := hstn
  clear hstn
  replace h1 := h1.mono hI4
  replace hW := hW.mono hI4
  replace hle := hle.trans hI4
  refine RW.on_guard rfl rfl rfl rfl hk11 ?_
  refine RW.call rfl call11 rfl rfl (same_spec (a := [116]) (b := [116]) hst hW (by assumption) (by decide)) ?_
  rintro e w ⟨rfl, hstn⟩
  clear hst
  have hst := hstn
  clear hstn
  refine ⟨_, rfl, ?_⟩
  refine RW.op1 rfl (runs_pick_true rfl hk11 rfl) ?_
  refine RW.op1 rfl (runs_assign rfl) ?_
  refine RW.done ?_
  refine AQ.next ?_
  refine CW.ret ?_
  refine AQ.ret1 rfl rfl ?_
  exact ⟨rfl, _, hle, hst⟩
set_option maxRecDepth 100000 in
set_option maxHeartbeats 1000000 in
theorem joins_spec {w0 w : World} {I : Imm} {L : Own} (hst : St w0 w I L) {vl vm : Value} {xl xm : List Int} (hl : RdI I vl xl) (hm : RdI I vm xm) (hxl : ∀ n ∈ xl, i64ok n) (hxm : ∀ n ∈ xm, i64ok n) (hll : xl.length ≤ 9223372036854775807) (hlm : xm.length ≤ 9223372036854775807) (s t : ByteArray) :
    Calls Try.prog 3 #[vl, vm, .string s, .string t] w fun e w' => e = .returned (.bool true) ∧ ∃ I', I.le I' ∧ St w0 w' I' L := by
  refine enter Try.func3 rfl (N := 95) rfl rfl ?_
  simp only [List.zipIdx_cons, List.zipIdx_nil, List.map_cons, List.map_nil, Nat.zero_add, Nat.reduceAdd]
  have hle := Imm.le.refl I
  refine CW.seq ?_
  -- region 0
  refine CW.region ?_
  refine RW.op1 rfl (runs_assign rfl) ?_
  refine RW.done ?_
  refine AQ.next ?_
  refine CW.seq ?_
  -- region 1
  refine CW.region ?_
  refine RW.op1 rfl (runs_move rfl) ?_
  refine RW.op1 rfl (runs_move rfl) ?_
  refine RW.call rfl call9 rfl rfl (text_spec hst s (n := 100) (by decide)) ?_
  rintro e w ⟨s1, rfl, hs1, hstn⟩
  clear hst
  have hst := hstn
  clear hstn
  have hz1 : s1.size ≤ 100 := by rw [← size_toList, hs1, List.length_take]; show min 100 _ ≤ 100; omega
  refine ⟨_, rfl, ?_⟩
  refine RW.call rfl call8 rfl rfl (values_spec hst hl hxl hll s1 (by omega) 0 (by unfold i64ok; omega) false (fun _ => by decide)) ?_
  rintro e w ⟨I2, va, av, hI2, rfl, hstn, hA, hga, hal⟩
  clear hst
  have hst := hstn
  clear hstn
  have hMa : max 255 (s1.size + 1) = 255 := by omega
  rw [hMa] at hga
  have hoa := good_encOk hga (by decide)
  replace hm := hm.mono hI2
  replace hle := hle.trans hI2
  refine ⟨_, rfl, ?_⟩
  refine RW.op1 rfl (runs_move rfl) ?_
  refine RW.op1 rfl (runs_move rfl) ?_
  refine RW.call rfl call9 rfl rfl (text_spec hst t (n := 100) (by decide)) ?_
  rintro e w ⟨t1, rfl, ht1, hstn⟩
  clear hst
  have hst := hstn
  clear hstn
  have hz2 : t1.size ≤ 100 := by rw [← size_toList, ht1, List.length_take]; show min 100 _ ≤ 100; omega
  refine ⟨_, rfl, ?_⟩
  refine RW.call rfl call8 rfl rfl (values_spec hst hm hxm hlm t1 (by omega) 0 (by unfold i64ok; omega) false (fun _ => by decide)) ?_
  rintro e w ⟨I4, vb, bv, hI4, rfl, hstn, hB, hgb, hbl⟩
  clear hst
  have hst := hstn
  clear hstn
  have hMb : max 255 (t1.size + 1) = 255 := by omega
  rw [hMb] at hgb
  have hob := good_encOk hgb (by decide)
  have hgc : ∀ a ∈ av ++ bv, a.good 255 false := fun a ha => (List.mem_append.1 ha).elim (hga a) (hgb a)
  have hoc := good_encOk hgc (by decide)
  have hle1 := encA_le hoa
  have hle2 := encA_le hob
  replace hm := hm.mono hI4
  replace hA := hA.mono hI4
  replace hle := hle.trans hI4
  refine ⟨_, rfl, ?_⟩
  refine RW.op1 rfl (runs_assign rfl) ?_
  refine RW.op1 rfl (runs_assign rfl) ?_
  refine RW.done ?_
  refine AQ.next ?_
  refine CW.seq ?_
  -- region 2
  refine CW.region ?_
  refine RW.op1 rfl (runs_move rfl) ?_
  refine RW.call rfl call10 rfl rfl (enc_spec (av := av) (m := 255) (o := false) hst hA hga (by omega)) ?_
  rintro e w ⟨I5, vX, hI5, rfl, hstn, hX⟩
  clear hst
  have hst := hstn
  clear hstn
  rw [hoa] at hX ⊢; simp only [if_true] at hX ⊢
  replace hm := hm.mono hI5
  replace hA := hA.mono hI5
  replace hB := hB.mono hI5
  replace hle := hle.trans hI5
  refine ⟨_, rfl, ?_⟩
  refine RW.op1 rfl (runs_move rfl) ?_
  refine RW.op1 rfl (runs_extract rfl rfl) ?_
  refine RW.op1 rfl (runs_extract rfl rfl) ?_
  refine RW.op1 rfl (runs_assign rfl) ?_
  refine RW.op1 rfl (runs_assign rfl) ?_
  refine RW.done ?_
  refine AQ.next ?_
  refine CW.seq ?_
  -- region 3
  refine CW.region ?_
  refine RW.op1 rfl (runs_move rfl) ?_
  refine RW.call rfl call10 rfl rfl (enc_spec (av := bv) (m := 255) (o := false) hst hB hgb (by omega)) ?_
  rintro e w ⟨I6, vY, hI6, rfl, hstn, hY⟩
  clear hst
  have hst := hstn
  clear hstn
  rw [hob] at hY ⊢; simp only [if_true] at hY ⊢
  replace hm := hm.mono hI6
  replace hA := hA.mono hI6
  replace hB := hB.mono hI6
  replace hX := hX.mono hI6
  replace hle := hle.trans hI6
  refine ⟨_, rfl, ?_⟩
  refine RW.op1 rfl (runs_move rfl) ?_
  refine RW.op1 rfl (runs_extract rfl rfl) ?_
  refine RW.op1 rfl (runs_extract rfl rfl) ?_
  refine RW.op1 rfl (runs_assign rfl) ?_
  refine RW.op1 rfl (runs_assign rfl) ?_
  refine RW.done ?_
  refine AQ.next ?_
  refine CW.seq ?_
  -- region 4
  refine CW.region ?_
  refine RW.op1 rfl (runs_move rfl) ?_
  refine RW.opE rfl (runs_appendR (Lv := []) Try.underlying23 ti20 rfl (by decide) rfl rfl hst (Grow.nil _ _) (by assumption) (by (try simp) <;> omega) (by (try simp) <;> (try unfold maxLen) <;> omega)) ?_
  rintro u7 w ⟨Lv7, hstn, hg7⟩
  clear hst
  have hst := hstn
  clear hstn
  refine RW.op1 rfl (runs_move rfl) ?_
  refine RW.opE rfl (runs_appendR Try.underlying23 ti20 rfl (by decide) rfl rfl hst (by assumption) (by assumption) (by (try simp) <;> omega) (by (try simp) <;> (try unfold maxLen) <;> omega)) ?_
  rintro u8 w ⟨Lv8, hstn, hg8⟩
  clear hst
  have hst := hstn
  clear hstn
  obtain ⟨J8, hJ8, hstn, h8⟩ := Grow.freeze hg8 hst
  clear hst
  have hst := hstn
  clear hstn
  replace hm := hm.mono hJ8
  replace hA := hA.mono hJ8
  replace hB := hB.mono hJ8
  replace hX := hX.mono hJ8
  replace hY := hY.mono hJ8
  replace hle := hle.trans hJ8
  try simp only [List.nil_append] at h8
  replace h8 : RdA J8 u8 (av ++ bv) := by unfold RdA; rw [List.length_append, List.map_append]; simpa using h8
  have hC := h8
  refine RW.call rfl call10 rfl rfl (enc_spec (av := av ++ bv) (m := 255) (o := false) hst hC hgc (by rw [List.length_append]; omega)) ?_
  rintro e w ⟨I9, vZ, hI9, rfl, hstn, hZ⟩
  clear hst
  have hst := hstn
  clear hstn
  rw [hoc] at hZ ⊢; simp only [if_true] at hZ ⊢
  replace hm := hm.mono hI9
  replace hA := hA.mono hI9
  replace hB := hB.mono hI9
  replace hX := hX.mono hI9
  replace hY := hY.mono hI9
  replace h8 := h8.mono hI9
  replace hC := hC.mono hI9
  replace hle := hle.trans hI9
  refine ⟨_, rfl, ?_⟩
  refine RW.op1 rfl (runs_move rfl) ?_
  refine RW.op1 rfl (runs_extract rfl rfl) ?_
  refine RW.op1 rfl (runs_extract rfl rfl) ?_
  refine RW.op1 rfl (runs_assign rfl) ?_
  refine RW.op1 rfl (runs_assign rfl) ?_
  refine RW.done ?_
  refine AQ.next ?_
  refine CW.seq ?_
  refine CW.seq ?_
  -- region 5
  refine CW.region ?_
  refine RW.op1 rfl (runs_move rfl) ?_
  refine RW.op1 rfl (runs_neI rfl rfl) ?_
  refine RW.op1 rfl (runs_move rfl) ?_
  have hk47 := (show decide ((0 : Int) ≠ 0) = false from by decide)
  refine RW.on_guard rfl rfl rfl rfl hk47 ?_
  refine RW.op1 rfl (runs_move rfl) ?_
  refine RW.on_guard rfl rfl rfl rfl hk47 ?_
  refine RW.op1 rfl (runs_neI rfl rfl) ?_
  refine RW.op1 rfl (runs_pick_false rfl hk47 rfl) ?_
  refine RW.op1 rfl (runs_move rfl) ?_
  have hk51 := (show decide ((0 : Int) ≠ 0) = false from by decide)
  refine RW.on_guard rfl rfl rfl rfl hk51 ?_
  refine RW.op1 rfl (runs_move rfl) ?_
  refine RW.on_guard rfl rfl rfl rfl hk51 ?_
  refine RW.op1 rfl (runs_neI rfl rfl) ?_
  refine RW.op1 rfl (runs_pick_false rfl hk51 rfl) ?_
  refine RW.op1 rfl (runs_move rfl) ?_
  have hk55 := (show decide ((0 : Int) ≠ 0) = false from by decide)
  refine RW.on_guard rfl rfl rfl rfl hk55 ?_
  refine RW.op1 rfl (runs_move rfl) ?_
  refine RW.on_guard rfl rfl rfl rfl hk55 ?_
  refine RW.op1 rfl (runs_move rfl) ?_
  refine RW.on_guard rfl rfl rfl rfl hk55 ?_
  refine RW.call rfl call12 rfl rfl (copy_own hst hX (by omega)) ?_
  rintro e w ⟨v58, L58, rfl, hstn, hg58⟩
  clear hst
  have hst := hstn
  clear hstn
  refine ⟨_, rfl, ?_⟩
  refine RW.on_guard rfl rfl rfl rfl hk55 ?_
  refine RW.op1 rfl (runs_move rfl) ?_
  refine RW.on_guard rfl rfl rfl rfl hk55 ?_
  refine RW.opE rfl (runs_appendB Try.underlying26 ti5 rfl rfl hst hg58 hY (by omega)) ?_
  rintro u11 w ⟨Lv11, hstn, hg11⟩
  clear hst
  have hst := hstn
  clear hstn
  obtain ⟨J11, hJ11, hstn, h11⟩ := Grow.freeze hg11 hst
  clear hst
  have hst := hstn
  clear hstn
  replace hm := hm.mono hJ11
  replace hA := hA.mono hJ11
  replace hB := hB.mono hJ11
  replace hX := hX.mono hJ11
  replace hY := hY.mono hJ11
  replace h8 := h8.mono hJ11
  replace hC := hC.mono hJ11
  replace hZ := hZ.mono hJ11
  replace hle := hle.trans hJ11
  try simp only [List.nil_append] at h11
  have hXY := h11
  refine RW.on_guard rfl rfl rfl rfl hk55 ?_
  refine RW.call rfl call11 rfl rfl (same_spec hst hZ hXY (by rw [encA_append, List.length_append]; omega)) ?_
  rintro e w ⟨rfl, hstn⟩
  clear hst
  have hst := hstn
  clear hstn
  refine ⟨_, rfl, ?_⟩
  refine RW.on_guard rfl rfl rfl rfl hk55 ?_
  refine RW.op1 rfl (runs_not rfl) ?_
  refine RW.op1 rfl (runs_pick_false rfl hk55 rfl) ?_
  refine RW.done ?_
  refine AQ.next ?_
  refine CW.cond rfl (fun hc => absurd hc (by rw [encA_append, decide_eq_true rfl]; decide)) (fun hc => ?_)
  refine CW.skip ?_
  refine AQ.next ?_
  refine CW.seq ?_
  -- region 7
  refine CW.region ?_
  refine RW.op1 rfl (runs_move rfl) ?_
  refine RW.op1 rfl (RdL.len Try.underlying23 rfl hA) ?_
  refine RW.op1 rfl (runs_move rfl) ?_
  refine RW.op1 rfl (RdL.len Try.underlying23 rfl hB) ?_
  refine RW.op1 rfl (runs_eqI rfl rfl) ?_
  refine RW.op1 rfl (runs_assign rfl) ?_
  refine RW.done ?_
  refine AQ.next ?_
  refine CW.seq ?_
  refine CW.seq ?_
  -- region 8
  refine CW.region ?_
  refine RW.op1 rfl (runs_assign rfl) ?_
  refine RW.done ?_
  refine AQ.next ?_
  refine CW.block ?_
  -- loop 1
  refine CW.loop (Nat × Bool × Imm) (fun x w => I.le x.2.2 ∧ St w0 w x.2.2 L ∧ RdA x.2.2 va av ∧ RdA x.2.2 vb bv ∧ RdB x.2.2 vX (encA av) ∧ RdB x.2.2 vY (encA bv) ∧ x.1 ≤ av.length ∧ (x.2.1 = true ↔ av.length = bv.length ∧ av.take x.1 = bv.take x.1)) (fun x => [(9, va), (10, vb), (11, vX), (13, vY), (17, .bool x.2.1), (18, .int .i64 (x.1 : Int))]) (fun x => av.length - x.1) ⟨(0, decide ((av.length : Int) = (bv.length : Int)), _), ⟨hle, hst, hA, hB, hX, hY, Nat.zero_le _, by simp only [decide_eq_true_eq, List.take_zero, and_true]; omega⟩, ⟨rfl, rfl, rfl, rfl, rfl, rfl, trivial⟩⟩ ?_
  clear hA hB hX hY hle
  rintro ⟨k, q, I5⟩ w ⟨hle, hstn, hA, hB, hX, hY, hk, hq⟩
  dsimp only at hle hstn hA hB hX hY hk hq ⊢
  clear hst
  have hst := hstn
  clear hstn
  refine CW.seq ?_
  refine CW.seq ?_
  -- region 9
  refine CW.region ?_
  refine RW.op1 rfl (runs_move rfl) ?_
  refine RW.op1 rfl (runs_move rfl) ?_
  refine RW.split (t := 70) rfl (fun hb70 => ?_) (fun hb70 => ?_)
  · have hb70p := hb70
    try simp only [decide_eq_true_eq, decide_eq_false_iff_not] at hb70p
    refine RW.on_guard rfl rfl rfl rfl hb70 ?_
    refine RW.op1 rfl (runs_move rfl) ?_
    refine RW.on_guard rfl rfl rfl rfl hb70 ?_
    refine RW.op1 rfl (runs_move rfl) ?_
    refine RW.on_guard rfl rfl rfl rfl hb70 ?_
    refine RW.op1 rfl (RdL.len Try.underlying23 rfl hA) ?_
    refine RW.on_guard rfl rfl rfl rfl hb70 ?_
    refine RW.op1 rfl (runs_lss rfl rfl) ?_
    refine RW.op1 rfl (runs_pick_true rfl hb70 rfl) ?_
    refine RW.done ?_
    refine AQ.next ?_
    refine CW.cond rfl (fun hc75 => ?_) (fun hc75 => ?_)
    · have hcb75 := hc75
      try simp only [decide_eq_true_eq, decide_eq_false_iff_not] at hc75
      have hk1 : k < av.length := by omega
      have hql := hq.1 hb70
      have hkb : k < bv.length := by omega
      refine CW.skip ?_
      refine AQ.next ?_
      refine CW.seq ?_
      refine CW.block ?_
      -- region 11
      refine CW.drawSt hst (.q 0 (.q 1 (.q 2 (.q 3 (.q 4 (.q 5 (.q 6 (.q 7 (.q 8 (.q 9 .nil)))))))))) follows (by kernel_rfl) (fun w hst => ?_)
      refine DRW.q rfl rfl (fun w' hF => runs_move rfl) ?_
      refine DRW.q rfl rfl (fun w' hF => runs_move rfl) ?_
      refine DRW.q rfl rfl (fun w' hF => RdL.indexAddr Try.underlying23 ti20 (by decide) rfl rfl hA (by omega)) ?_
      refine DRW.q rfl rfl (FSt.load1 sc20 rfl (RdA.at (i := (k : Int)) hA (by omega) (by omega))) ?_
      refine DRW.q rfl rfl (fun w' hF => runs_move rfl) ?_
      refine DRW.q rfl rfl (fun w' hF => runs_move rfl) ?_
      refine DRW.q rfl rfl (fun w' hF => RdL.indexAddr Try.underlying23 ti20 (by decide) rfl rfl hB (by omega)) ?_
      refine DRW.q rfl rfl (FSt.load1 sc20 rfl (RdA.at (i := (k : Int)) hB (by omega) (by omega))) ?_
      refine DRW.q rfl rfl (fun w' hF => runs_eqAV rfl rfl (hga _ (List.getElem_mem _)) (hgb _ (List.getElem_mem _))) ?_
      refine DRW.q rfl rfl (fun w' hF => runs_assign rfl) ?_
      refine DRW.done ?_
      refine AQ.block_normal ?_
      refine AQ.next ?_
      -- region 10
      refine CW.region ?_
      refine RW.op1 rfl (runs_move rfl) ?_
      refine RW.op1 rfl (runs_add rfl rfl (by omega)) ?_
      refine RW.op1 rfl (runs_assign rfl) ?_
      refine RW.done ?_
      exact AQ.again (x := (k, q, I5)) (k + 1, _, _) ⟨hle, hst, hA, hB, hX, hY, by omega, take_step hk1 hkb hga hgb hql.1 hql.2⟩ ⟨rfl, rfl, rfl, rfl, rfl, rfl, trivial⟩ (by dsimp only; omega)
    · have hcb75 := hc75
      try simp only [decide_eq_true_eq, decide_eq_false_iff_not] at hc75
      skip
      refine CW.exit ?_
      refine AQ.past_exit ?_
      refine AQ.past_exit ?_
      refine AQ.block_hit ?_
      refine AQ.next ?_
      refine CW.seq ?_
      -- region 12
      refine CW.region ?_
      refine RW.op1 rfl (runs_move rfl) ?_
      refine RW.op1 rfl (runs_move rfl) ?_
      refine RW.call rfl call11 rfl rfl (same_spec hst hX hY (by omega)) ?_
      rintro e w ⟨rfl, hstn⟩
      clear hst
      have hst := hstn
      clear hstn
      refine ⟨_, rfl, ?_⟩
      refine RW.op1 rfl (runs_move rfl) ?_
      refine RW.op1 rfl (runs_eqB Try.underlying4 rfl rfl) ?_
      refine RW.op1 rfl (runs_move rfl) ?_
      have hk92 := (joins_fin hga hgb (by first | exact fin1 hq hb70 (by omega) | exact fin2 hq hb70))
      refine RW.on_guard rfl rfl rfl rfl hk92 ?_
      refine RW.call rfl call13 rfl rfl (wakes_spec hst) ?_
      rintro e w ⟨rfl, I14, hI14, hstn⟩
      clear hst
      have hst := hstn
      clear hstn
      replace hA := hA.mono hI14
      replace hB := hB.mono hI14
      replace hX := hX.mono hI14
      replace hY := hY.mono hI14
      replace hle := hle.trans hI14
      refine ⟨_, rfl, ?_⟩
      refine RW.op1 rfl (runs_pick_true rfl hk92 rfl) ?_
      refine RW.op1 rfl (runs_assign rfl) ?_
      refine RW.done ?_
      refine AQ.next ?_
      refine CW.ret ?_
      refine AQ.ret1 rfl rfl ?_
      exact ⟨rfl, _, hle, hst⟩
  · have hb70p := hb70
    try simp only [decide_eq_true_eq, decide_eq_false_iff_not] at hb70p
    refine RW.off_guard rfl rfl rfl rfl hb70 ?_
    refine RW.off_guard rfl rfl rfl rfl hb70 ?_
    refine RW.off_guard rfl rfl rfl rfl hb70 ?_
    refine RW.off_guard rfl rfl rfl rfl hb70 ?_
    refine RW.op1 rfl (runs_pick_false rfl hb70 rfl) ?_
    refine RW.done ?_
    refine AQ.next ?_
    skip
    refine CW.cond_false rfl ?_
    refine CW.exit ?_
    refine AQ.past_exit ?_
    refine AQ.past_exit ?_
    refine AQ.block_hit ?_
    refine AQ.next ?_
    refine CW.seq ?_
    -- region 12
    refine CW.region ?_
    refine RW.op1 rfl (runs_move rfl) ?_
    refine RW.op1 rfl (runs_move rfl) ?_
    refine RW.call rfl call11 rfl rfl (same_spec hst hX hY (by omega)) ?_
    rintro e w ⟨rfl, hstn⟩
    clear hst
    have hst := hstn
    clear hstn
    refine ⟨_, rfl, ?_⟩
    refine RW.op1 rfl (runs_move rfl) ?_
    refine RW.op1 rfl (runs_eqB Try.underlying4 rfl rfl) ?_
    refine RW.op1 rfl (runs_move rfl) ?_
    have hk92 := (joins_fin hga hgb (by first | exact fin1 hq hb70 (by omega) | exact fin2 hq hb70))
    refine RW.on_guard rfl rfl rfl rfl hk92 ?_
    refine RW.call rfl call13 rfl rfl (wakes_spec hst) ?_
    rintro e w ⟨rfl, I16, hI16, hstn⟩
    clear hst
    have hst := hstn
    clear hstn
    replace hA := hA.mono hI16
    replace hB := hB.mono hI16
    replace hX := hX.mono hI16
    replace hY := hY.mono hI16
    replace hle := hle.trans hI16
    refine ⟨_, rfl, ?_⟩
    refine RW.op1 rfl (runs_pick_true rfl hk92 rfl) ?_
    refine RW.op1 rfl (runs_assign rfl) ?_
    refine RW.done ?_
    refine AQ.next ?_
    refine CW.ret ?_
    refine AQ.ret1 rfl rfl ?_
    exact ⟨rfl, _, hle, hst⟩
end Go.Proofs.YtoegloebnnjflaaX
