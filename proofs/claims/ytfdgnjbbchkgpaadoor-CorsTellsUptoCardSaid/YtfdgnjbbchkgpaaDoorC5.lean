/- What may be asked: what it comes to. -/
import Derived.Test.YtfdgnjbbchkgpaaDoorT
import Derived.Test.YtfdgnjbbchkgpaaDoorC4
namespace Go.Proofs.YtfdgnjbbchkgpaaDoorX
set_option linter.unusedVariables false
set_option linter.unusedSimpArgs false
open Go Go.RowKit Go.Proofs

set_option maxRecDepth 100000 in
set_option maxHeartbeats 1000000 in
theorem indexFunc_spec {w0 w : World} {I : Imm} {L : Own} (hst : St w0 w I L) {v : Value} {ls : List (List UInt8)} (hv : RdS I v (ls.map strOf)) (hlen : ls.length ≤ 1000000) {f : FuncId} {cs : List Value} (hcal : Callable Tryd.prog f) (p : List UInt8 → Bool) (hp : ∀ x ∈ ls, ∀ (w1 : World) (I1 : Imm), I.le I1 → St w0 w1 I1 L → Calls Tryd.prog f (Value.string (strOf x) :: cs).toArray w1 fun e w' => ∃ I', I1.le I' ∧ e = .returned (.bool (p x)) ∧ St w0 w' I' L) :
    Calls Tryd.prog 41 #[v, .func (.func f) #[] cs.toArray] w fun e w' => ∃ I' r, Imm.le I I' ∧ e = .returned (.int .i64 r) ∧ decide (r ≥ 0) = ls.any p ∧ St w0 w' I' L := by
  refine enter Tryd.func41 rfl (N := 19) rfl rfl ?_
  simp only [List.zipIdx_cons, List.zipIdx_nil, List.map_cons, List.map_nil, Nat.zero_add, Nat.reduceAdd]
  have hle := Imm.le.refl I
  refine CW.seq ?_
  -- region 0
  refine CW.region ?_
  refine RW.op1 rfl (runs_assign rfl) ?_
  refine RW.done ?_
  refine AQ.next ?_
  refine CW.seq ?_
  refine CW.seq ?_
  -- region 1
  refine CW.region ?_
  refine RW.op1 rfl (runs_move rfl) ?_
  refine RW.op1 rfl (RdL.len Tryd.underlying23 rfl hv) ?_
  rw [List.length_map]
  refine RW.op1 rfl (runs_move rfl) ?_
  refine RW.done ?_
  refine AQ.next ?_
  refine CW.block ?_
  -- loop 1
  refine CW.loop (Nat × Imm) (fun x w => I.le x.2 ∧ RdS x.2 v (ls.map strOf) ∧ St w0 w x.2 L ∧ x.1 ≤ ls.length ∧ ∀ y ∈ ls.take x.1, p y = false) (fun x => [(0, v), (1, .func (.func f) #[] cs.toArray), (6, v), (7, .int .i64 (ls.length : Nat)), (8, .int .i64 (x.1 : Int))]) (fun x => ls.length - x.1) ⟨(0, _), ⟨hle, hv, hst, Nat.zero_le _, by simp⟩, ⟨rfl, rfl, rfl, rfl, rfl, trivial⟩⟩ ?_
  clear hle hv
  rintro ⟨k, I2⟩ w ⟨hle, hv, hstn, hk, hall⟩
  dsimp only at hle hv hstn hk hall ⊢
  clear hst
  have hst := hstn
  clear hstn
  refine CW.seq ?_
  -- region 2
  refine CW.region ?_
  refine RW.op1 rfl (runs_lss rfl rfl) ?_
  refine RW.done ?_
  refine AQ.next ?_
  refine CW.seq ?_
  refine CW.cond rfl (fun hc9 => ?_) (fun hc9 => ?_)
  · have hcb9 := hc9
    try simp only [decide_eq_true_eq, decide_eq_false_iff_not] at hc9
    have hk1 : k < ls.length := by omega
    obtain ⟨y, hr⟩ : ∃ r, ls[k] = r := ⟨_, rfl⟩
    have hym : y ∈ ls := by rw [← hr]; exact List.getElem_mem _
    have hst5 : sat (ls.map strOf) (k : Int) = strOf y := by rw [sat_get (by rw [List.length_map]; exact hk1), List.getElem_map, hr]
    refine CW.skip ?_
    refine AQ.next ?_
    refine CW.seq ?_
    refine CW.block ?_
    refine CW.seq ?_
    -- region 3
    refine CW.region ?_
    refine RW.op1 rfl (runs_move rfl) ?_
    refine RW.op1 rfl (runs_assign rfl) ?_
    refine RW.done ?_
    refine AQ.next ?_
    refine CW.seq ?_
    -- region 4
    refine CW.region ?_
    refine RW.op1 rfl (runs_move rfl) ?_
    refine RW.op1 rfl (runs_move rfl) ?_
    refine RW.op1 rfl (runs_move rfl) ?_
    refine RW.op1 rfl (RdL.indexAddr Tryd.underlying23 ti9 (by decide) rfl rfl hv (by rw [List.length_map]; omega)) ?_
    refine RW.op1 rfl (runs_load1 sc9 rfl (hst.cell_imm (RdS.at hv (by omega) (by rw [List.length_map]; omega)))) ?_
    rw [hst5]
    refine RW.callC rfl hcal rfl rfl (hp y hym w I2 hle hst) ?_
    rintro e w ⟨I3, hI3, rfl, hstn⟩
    clear hst
    have hst := hstn
    clear hstn
    replace hv := RdS.mono hv hI3
    replace hle := hle.trans hI3
    refine ⟨_, rfl, ?_⟩
    refine RW.done ?_
    refine AQ.next ?_
    refine CW.cond rfl (fun hc16 => ?_) (fun hc16 => ?_)
    · have hcb16 := hc16
      try simp only [decide_eq_true_eq, decide_eq_false_iff_not] at hc16
      refine CW.seq ?_
      -- region 5
      refine CW.region ?_
      refine RW.op1 rfl (runs_move rfl) ?_
      refine RW.op1 rfl (runs_assign rfl) ?_
      refine RW.done ?_
      refine AQ.next ?_
      refine CW.ret ?_
      refine AQ.block_ret ?_
      refine AQ.past_ret ?_
      refine AQ.past_ret ?_
      refine AQ.block_ret ?_
      refine AQ.past_ret ?_
      refine AQ.ret1 rfl rfl ?_
      refine ⟨_, _, hle, rfl, ?_, hst⟩
      rw [decide_eq_true (show ((k : Nat) : Int) ≥ 0 by omega)]
      symm
      exact List.any_eq_true.2 ⟨y, hym, hcb16⟩
    · have hcb16 := hc16
      try simp only [decide_eq_true_eq, decide_eq_false_iff_not] at hc16
      refine CW.skip ?_
      refine AQ.block_normal ?_
      refine AQ.next ?_
      -- region 6
      refine CW.region ?_
      refine RW.op1 rfl (runs_add rfl rfl (by omega)) ?_
      refine RW.op1 rfl (runs_move rfl) ?_
      refine RW.done ?_
      exact AQ.again (x := (k, I2)) (k + 1, _) ⟨hle, hv, hst, by dsimp only; omega, takeE_more hall hk1 (by rw [hr]; exact hcb16)⟩ ⟨rfl, rfl, rfl, rfl, rfl, trivial⟩ (by dsimp only; omega)
  · have hcb9 := hc9
    try simp only [decide_eq_true_eq, decide_eq_false_iff_not] at hc9
    skip
    refine CW.exit ?_
    refine AQ.past_exit ?_
    refine AQ.past_exit ?_
    refine AQ.block_hit ?_
    refine AQ.next ?_
    refine CW.seq ?_
    -- region 7
    refine CW.region ?_
    refine RW.op1 rfl (runs_assign rfl) ?_
    refine RW.done ?_
    refine AQ.next ?_
    refine CW.ret ?_
    refine AQ.ret1 rfl rfl ?_
    refine ⟨_, _, hle, rfl, ?_, hst⟩
    rw [List.take_of_length_le (by omega)] at hall
    symm
    rw [List.any_eq_false.2 (fun x hx => by rw [hall x hx]; decide)]
    rfl
set_option maxRecDepth 100000 in
set_option maxHeartbeats 1000000 in
theorem containsFunc_spec {w0 w : World} {I : Imm} {L : Own} (hst : St w0 w I L) {v : Value} {ls : List (List UInt8)} (hv : RdS I v (ls.map strOf)) (hlen : ls.length ≤ 1000000) {f : FuncId} {cs : List Value} (hcal : Callable Tryd.prog f) (p : List UInt8 → Bool) (hp : ∀ x ∈ ls, ∀ (w1 : World) (I1 : Imm), I.le I1 → St w0 w1 I1 L → Calls Tryd.prog f (Value.string (strOf x) :: cs).toArray w1 fun e w' => ∃ I', I1.le I' ∧ e = .returned (.bool (p x)) ∧ St w0 w' I' L) :
    Calls Tryd.prog 28 #[v, .func (.func f) #[] cs.toArray] w fun e w' => ∃ I', Imm.le I I' ∧ e = .returned (.bool (ls.any p)) ∧ St w0 w' I' L := by
  refine enter Tryd.func28 rfl (N := 9) rfl rfl ?_
  simp only [List.zipIdx_cons, List.zipIdx_nil, List.map_cons, List.map_nil, Nat.zero_add, Nat.reduceAdd]
  have hle := Imm.le.refl I
  refine CW.seq ?_
  -- region 0
  refine CW.region ?_
  refine RW.op1 rfl (runs_assign rfl) ?_
  refine RW.done ?_
  refine AQ.next ?_
  refine CW.seq ?_
  -- region 1
  refine CW.region ?_
  refine RW.op1 rfl (runs_move rfl) ?_
  refine RW.op1 rfl (runs_move rfl) ?_
  refine RW.call rfl call41 rfl rfl (indexFunc_spec hst hv hlen hcal p hp) ?_
  rintro e w ⟨I1, r, hI1, rfl, hr, hstn⟩
  clear hst
  have hst := hstn
  clear hstn
  replace hle := hle.trans hI1
  refine ⟨_, rfl, ?_⟩
  refine RW.op1 rfl (runs_geq rfl rfl) ?_
  refine RW.op1 rfl (runs_assign rfl) ?_
  refine RW.done ?_
  refine AQ.next ?_
  refine CW.ret ?_
  refine AQ.ret1 rfl rfl ?_
  refine ⟨_, hle, ?_, hst⟩
  rw [hr]
set_option maxRecDepth 100000 in
set_option maxHeartbeats 1000000 in
theorem pre1_spec {w0 w : World} {I : Imm} {L : Own} {b1 b2 : Nat} {hA : Option Addr} {hcap : Nat} {hs : List HRow} {code : Int} {body : ByteArray} {cut creds : Bool} (hst : St w0 w I ((b2, Obj.cells (Value.bool creds).cells 4) :: (b1, Obj.cells (Value.agg #[.int .i64 code, .slice hA hs.length hcap, .string body, .bool cut]).cells 35) :: L)) (hM : MaxK I) (hv : RdH I (.slice hA hs.length hcap) hs) (hok : HB hs) (x : List UInt8) :
    Calls Tryd.prog 30 #[.string (strOf x), .pointer (some ⟨b1, 0, none⟩), .pointer (some ⟨b2, 0, none⟩)] w fun e w' => ∃ I', Imm.le I I' ∧ e = .returned (.bool (!decide (AllowsR hs ahdsS x creds))) ∧ St w0 w' I' ((b2, Obj.cells (Value.bool creds).cells 4) :: (b1, Obj.cells (Value.agg #[.int .i64 code, .slice hA hs.length hcap, .string body, .bool cut]).cells 35) :: L) := by
  refine enter Tryd.func30 rfl (N := 10) rfl rfl ?_
  simp only [List.zipIdx_cons, List.zipIdx_nil, List.map_cons, List.map_nil, Nat.zero_add, Nat.reduceAdd]
  have hle := Imm.le.refl I
  refine CW.seq ?_
  -- region 0
  refine CW.region ?_
  refine RW.op1 rfl (runs_assign rfl) ?_
  refine RW.done ?_
  refine AQ.next ?_
  refine CW.seq ?_
  -- region 1
  refine CW.region ?_
  refine RW.op1 rfl (runs_loadN (vs := [_, _, _, _]) ag35 ti35 rfl hst (k := 1) rfl rfl rfl) ?_
  refine RW.op1 rfl (runs_move rfl) ?_
  refine RW.op1 rfl (runs_load1 (v := .bool creds) sc4 rfl (hst.cell_own (k := 0) rfl rfl)) ?_
  refine RW.call rfl call27 rfl rfl (allows_spec hst hM hv hok code body cut ahdsS (strOf x) (by decide) creds) ?_
  rintro e w ⟨I1, hI1, rfl, hstn⟩
  clear hst
  have hst := hstn
  clear hstn
  rw [strOf_toList]
  replace hle := hle.trans hI1
  refine ⟨_, rfl, ?_⟩
  refine RW.op1 rfl (runs_not rfl) ?_
  refine RW.op1 rfl (runs_assign rfl) ?_
  refine RW.done ?_
  refine AQ.next ?_
  refine CW.ret ?_
  refine AQ.ret1 rfl rfl ?_
  exact ⟨_, hle, rfl, hst⟩
set_option maxRecDepth 100000 in
set_option maxHeartbeats 1000000 in
theorem pre_spec {w0 w : World} {I : Imm} {L : Own} (hst : St w0 w I L) (hM : MaxK I) {vh : Value} {hs : List HRow} (hv : RdH I vh hs) (hok : HB hs) (code : Int) (body : ByteArray) (cut : Bool) {vl : Value} {l : List HRow} (hl : RdH I vl l) (hlk : HB l) (o m : ByteArray) (hm : m.size ≤ 9223372036854775807) (creds : Bool) :
    Calls Tryd.prog 13 #[.agg #[.int .i64 code, vh, .string body, .bool cut], .string o, .bool creds, .string m, vl] w fun e w' => ∃ I', Imm.le I I' ∧ e = .returned (.bool (decide (PreR code hs o.toList creds m.toList l))) ∧ St w0 w' I' L := by
  obtain ⟨hA, hcap, rfl⟩ : ∃ A c, vh = .slice A hs.length c := by obtain ⟨_, _, A, c, e, _⟩ := hv; exact ⟨A, c, e⟩
  refine enter Tryd.func13 rfl (N := 42) rfl rfl ?_
  simp only [List.zipIdx_cons, List.zipIdx_nil, List.map_cons, List.map_nil, Nat.zero_add, Nat.reduceAdd]
  have hle := Imm.le.refl I
  refine CW.seq ?_
  -- region 0
  refine CW.region ?_
  refine RW.opE rfl (runs_box rfl hst) ?_
  rintro _ w ⟨b1, rfl, hstn⟩
  clear hst
  have hst := hstn
  clear hstn
  refine RW.opE rfl (runs_box rfl hst) ?_
  rintro _ w ⟨b2, rfl, hstn⟩
  clear hst
  have hst := hstn
  clear hstn
  refine RW.op1 rfl (runs_assign rfl) ?_
  refine RW.done ?_
  refine AQ.next ?_
  refine CW.seq ?_
  refine CW.seq ?_
  -- region 1
  refine CW.cut Imm (fun J w => I.le J ∧ MaxK J ∧ RdH J (.slice hA hs.length hcap) hs ∧ RdH J vl l ∧ St w0 w J ((b2, Obj.cells (Value.bool creds).cells 4) :: (b1, Obj.cells (Value.agg #[.int .i64 code, .slice hA hs.length hcap, .string body, .bool cut]).cells 35) :: L)) (fun _ => [(3, .string m), (4, vl), (5, .pointer (some ⟨b1, 0, none⟩)), (7, .pointer (some ⟨b2, 0, none⟩)), (25, .bool (decide (¬ preOk code hs o.toList creds)))]) ?_ ?_
  · -- region 1
    refine CW.region ?_
    first
      | refine RW.op1 rfl (runs_fieldAddr0 rfl Tryd.underlying35 rfl ti3 (by decide)) ?_
      | refine RW.op1 rfl (runs_fieldAddr rfl Tryd.underlying35 rfl ti3 (by decide)) ?_
    first
      | refine RW.op1 rfl (runs_load1 sc3 rfl (hst.cell_own (k := 0) rfl rfl)) ?_
      | refine RW.op1 rfl (runs_load1 sc3 rfl (hst.cell_own (k := 1) rfl rfl)) ?_
      | refine RW.op1 rfl (runs_load1 sc3 rfl (hst.cell_own (k := 2) rfl rfl)) ?_
    refine RW.op1 rfl (runs_lss rfl rfl) ?_
    refine RW.op1 rfl (runs_move rfl) ?_
    refine RW.split (t := 14) rfl (fun hb14 => ?_) (fun hb14 => ?_)
    · have hb14p := hb14
      try simp only [decide_eq_true_eq, decide_eq_false_iff_not] at hb14p
      refine RW.off_guard rfl rfl rfl rfl hb14 ?_
      refine RW.off_guard rfl rfl rfl rfl hb14 ?_
      refine RW.off_guard rfl rfl rfl rfl hb14 ?_
      refine RW.op1 rfl (runs_pick_true rfl hb14 rfl) ?_
      refine RW.op1 rfl (runs_move rfl) ?_
      refine RW.off_guard rfl rfl rfl rfl rfl ?_
      refine RW.off_guard rfl rfl rfl rfl rfl ?_
      refine RW.off_guard rfl rfl rfl rfl rfl ?_
      refine RW.off_guard rfl rfl rfl rfl rfl ?_
      refine RW.off_guard rfl rfl rfl rfl rfl ?_
      refine RW.op1 rfl (runs_pick_true rfl rfl rfl) ?_
      refine RW.done ?_
      exact AQ.meet _ ⟨hle, hM, hv, hl, hst⟩ ⟨rfl, rfl, rfl, rfl, boolN (by unfold preOk; clear hst hv hl hM; (try generalize CheckR hs o.toList creds = C at *); simp_all <;> omega), trivial⟩
    · have hb14p := hb14
      try simp only [decide_eq_true_eq, decide_eq_false_iff_not] at hb14p
      refine RW.on_guard rfl rfl rfl rfl hb14 ?_
      first
        | refine RW.op1 rfl (runs_fieldAddr0 rfl Tryd.underlying35 rfl ti3 (by decide)) ?_
        | refine RW.op1 rfl (runs_fieldAddr rfl Tryd.underlying35 rfl ti3 (by decide)) ?_
      refine RW.on_guard rfl rfl rfl rfl hb14 ?_
      first
        | refine RW.op1 rfl (runs_load1 sc3 rfl (hst.cell_own (k := 0) rfl rfl)) ?_
        | refine RW.op1 rfl (runs_load1 sc3 rfl (hst.cell_own (k := 1) rfl rfl)) ?_
        | refine RW.op1 rfl (runs_load1 sc3 rfl (hst.cell_own (k := 2) rfl rfl)) ?_
      refine RW.on_guard rfl rfl rfl rfl hb14 ?_
      refine RW.op1 rfl (runs_gtr rfl rfl) ?_
      refine RW.op1 rfl (runs_pick_false rfl hb14 rfl) ?_
      refine RW.op1 rfl (runs_move rfl) ?_
      refine RW.split (t := 19) rfl (fun hb19 => ?_) (fun hb19 => ?_)
      · have hb19p := hb19
        try simp only [decide_eq_true_eq, decide_eq_false_iff_not] at hb19p
        refine RW.off_guard rfl rfl rfl rfl hb19 ?_
        refine RW.off_guard rfl rfl rfl rfl hb19 ?_
        refine RW.off_guard rfl rfl rfl rfl hb19 ?_
        refine RW.off_guard rfl rfl rfl rfl hb19 ?_
        refine RW.off_guard rfl rfl rfl rfl hb19 ?_
        refine RW.op1 rfl (runs_pick_true rfl hb19 rfl) ?_
        refine RW.done ?_
        exact AQ.meet _ ⟨hle, hM, hv, hl, hst⟩ ⟨rfl, rfl, rfl, rfl, boolN (by unfold preOk; clear hst hv hl hM; (try generalize CheckR hs o.toList creds = C at *); simp_all <;> omega), trivial⟩
      · have hb19p := hb19
        try simp only [decide_eq_true_eq, decide_eq_false_iff_not] at hb19p
        refine RW.on_guard rfl rfl rfl rfl hb19 ?_
        refine RW.op1 rfl (runs_loadN (vs := [_, _, _, _]) ag35 ti35 rfl hst (k := 1) rfl rfl rfl) ?_
        refine RW.on_guard rfl rfl rfl rfl hb19 ?_
        refine RW.op1 rfl (runs_move rfl) ?_
        refine RW.on_guard rfl rfl rfl rfl hb19 ?_
        refine RW.op1 rfl (runs_load1 (v := .bool creds) sc4 rfl (hst.cell_own (k := 0) rfl rfl)) ?_
        refine RW.on_guard rfl rfl rfl rfl hb19 ?_
        refine RW.call rfl call12 rfl rfl (check_spec hst hv hok code body cut o creds) ?_
        rintro e w ⟨I3, hI3, rfl, hstn⟩
        clear hst
        have hst := hstn
        clear hstn
        replace hM := hM.mono hI3
        replace hv := hv.mono hI3
        replace hl := hl.mono hI3
        replace hle := hle.trans hI3
        refine ⟨_, rfl, ?_⟩
        refine RW.on_guard rfl rfl rfl rfl hb19 ?_
        refine RW.op1 rfl (runs_not rfl) ?_
        refine RW.op1 rfl (runs_pick_false rfl hb19 rfl) ?_
        refine RW.done ?_
        exact AQ.meet _ ⟨hle, hM, hv, hl, hst⟩ ⟨rfl, rfl, rfl, rfl, boolN (by unfold preOk; clear hst hv hl hM; (try generalize CheckR hs o.toList creds = C at *); simp_all <;> omega), trivial⟩
  · clear hst hle hM hv hl
    rintro J w ⟨hle, hM, hv, hl, hst⟩
    refine AQ.next ?_
    refine CW.cond rfl (fun hc25 => ?_) (fun hc25 => ?_)
    · have hcb25 := hc25
      try simp only [decide_eq_true_eq, decide_eq_false_iff_not] at hc25
      have h25 : ¬ preOk code hs o.toList creds := of_decide_eq_true hcb25
      refine CW.seq ?_
      -- region 2
      refine CW.region ?_
      refine RW.op1 rfl (runs_assign rfl) ?_
      refine RW.done ?_
      refine AQ.next ?_
      refine CW.ret ?_
      refine AQ.past_ret ?_
      refine AQ.ret1 rfl rfl ?_
      refine ⟨_, hle, ?_, hst.drop1.drop1⟩
      rw [decide_eq_false (fun h => h25 h.1)]
    · have hcb25 := hc25
      try simp only [decide_eq_true_eq, decide_eq_false_iff_not] at hc25
      have h25 : preOk code hs o.toList creds := by simpa using hcb25
      refine CW.skip ?_
      refine AQ.next ?_
      refine CW.seq ?_
      refine CW.seq ?_
      -- region 3
      refine CW.cut Imm (fun J w => I.le J ∧ MaxK J ∧ RdH J (.slice hA hs.length hcap) hs ∧ RdH J vl l ∧ St w0 w J ((b2, Obj.cells (Value.bool creds).cells 4) :: (b1, Obj.cells (Value.agg #[.int .i64 code, .slice hA hs.length hcap, .string body, .bool cut]).cells 35) :: L)) (fun _ => [(4, vl), (5, .pointer (some ⟨b1, 0, none⟩)), (7, .pointer (some ⟨b2, 0, none⟩)), (36, .bool (decide (¬ (commonL m.toList = true ∨ AllowsR hs methS (lower m.toList) creds))))]) ?_ ?_
      · -- region 3
        refine CW.drawSt hst (.q 0 (.l 1 (.q 2 (.q 3 (.q 4 (.q 5 (.q 7 (.l 6 (.l 8 (.q 9 (.q 10 .nil))))))))))) follows (by kernel_rfl) (fun w hst => ?_)
        refine DRW.q rfl rfl (fun w' hF => runs_move rfl) ?_
        refine DRW.call rfl rfl call26 rfl rfl (common_spec hst m) ?_
        rintro e w ⟨I4, hI4, rfl, hstn⟩
        clear hst
        have hst := hstn
        clear hstn
        replace hM := hM.mono hI4
        replace hv := hv.mono hI4
        replace hl := hl.mono hI4
        replace hle := hle.trans hI4
        refine ⟨_, rfl, FSt.of hst hI4 (by first | exact (List.sublist_cons_self _ _).trans (List.sublist_append_right _ _) | exact List.Sublist.refl _ | exact List.sublist_cons_self _ _ | exact List.sublist_append_right _ _ | exact (List.sublist_cons_self _ _).trans (List.sublist_cons_self _ _) | exact (List.sublist_append_right _ _).trans (List.sublist_cons_self _ _) | simp), ?_⟩
        refine DRW.q rfl rfl (fun w' hF => runs_not rfl) ?_
        refine DRW.q rfl rfl (fun w' hF => runs_move rfl) ?_
        refine DRW.split (t := 29) rfl (fun hb29 => ?_) (fun hb29 => ?_)
        · have hb29p := hb29
          try simp only [decide_eq_true_eq, decide_eq_false_iff_not] at hb29p
          refine DRW.q_on rfl rfl rfl rfl hb29 rfl (FSt.loadN (vs := [_, _, _, _]) ag35 ti35 rfl (k := 1) rfl rfl rfl) ?_
          refine DRW.q_on rfl rfl rfl rfl hb29 rfl (fun w' hF => runs_move rfl) ?_
          refine DRW.q_on rfl rfl rfl rfl hb29 rfl (FSt.load1_own (v := .bool creds) sc4 rfl (k := 0) rfl rfl) ?_
          refine DRW.call_on rfl rfl rfl rfl hb29 rfl call23 rfl rfl (lower_spec hst m hm) ?_
          rintro e w ⟨I5, hI5, rfl, hstn⟩
          clear hst
          have hst := hstn
          clear hstn
          replace hM := hM.mono hI5
          replace hv := hv.mono hI5
          replace hl := hl.mono hI5
          replace hle := hle.trans hI5
          refine ⟨_, rfl, FSt.of hst (hI4.trans hI5) (by first | exact (List.sublist_cons_self _ _).trans (List.sublist_append_right _ _) | exact List.Sublist.refl _ | exact List.sublist_cons_self _ _ | exact List.sublist_append_right _ _ | exact (List.sublist_cons_self _ _).trans (List.sublist_cons_self _ _) | exact (List.sublist_append_right _ _).trans (List.sublist_cons_self _ _) | simp), ?_⟩
          refine DRW.call_on rfl rfl rfl rfl hb29 rfl call27 rfl rfl (allows_spec hst hM hv hok code body cut methS (strOf (lower m.toList)) (by decide) creds) ?_
          rintro e w ⟨I6, hI6, rfl, hstn⟩
          clear hst
          have hst := hstn
          clear hstn
          rw [strOf_toList]
          replace hM := hM.mono hI6
          replace hv := hv.mono hI6
          replace hl := hl.mono hI6
          replace hle := hle.trans hI6
          refine ⟨_, rfl, FSt.of hst ((hI4.trans hI5).trans hI6) (by first | exact (List.sublist_cons_self _ _).trans (List.sublist_append_right _ _) | exact List.Sublist.refl _ | exact List.sublist_cons_self _ _ | exact List.sublist_append_right _ _ | exact (List.sublist_cons_self _ _).trans (List.sublist_cons_self _ _) | exact (List.sublist_append_right _ _).trans (List.sublist_cons_self _ _) | simp), ?_⟩
          refine DRW.q_on rfl rfl rfl rfl hb29 rfl (fun w' hF => runs_not rfl) ?_
          refine DRW.q rfl rfl (fun w' hF => runs_pick_true rfl hb29 rfl) ?_
          refine DRW.done ?_
          exact AQ.meet _ ⟨hle, hM, hv, hl, hst⟩ ⟨rfl, rfl, rfl, boolN (by clear hst hv hl hM; simp_all), trivial⟩
        · have hb29p := hb29
          try simp only [decide_eq_true_eq, decide_eq_false_iff_not] at hb29p
          refine DRW.q_off rfl rfl rfl rfl hb29 rfl ?_
          refine DRW.q_off rfl rfl rfl rfl hb29 rfl ?_
          refine DRW.q_off rfl rfl rfl rfl hb29 rfl ?_
          refine DRW.l_off rfl rfl rfl rfl hb29 rfl ?_
          refine DRW.l_off rfl rfl rfl rfl hb29 rfl ?_
          refine DRW.q_off rfl rfl rfl rfl hb29 rfl ?_
          refine DRW.q rfl rfl (fun w' hF => runs_pick_false rfl hb29 rfl) ?_
          refine DRW.done ?_
          exact AQ.meet _ ⟨hle, hM, hv, hl, hst⟩ ⟨rfl, rfl, rfl, boolN (by clear hst hv hl hM; simp_all), trivial⟩
      · clear hst hle hM hv hl
        rintro J2 w ⟨hle, hM, hv, hl, hst⟩
        refine AQ.next ?_
        refine CW.cond rfl (fun hc36 => ?_) (fun hc36 => ?_)
        · have hcb36 := hc36
          try simp only [decide_eq_true_eq, decide_eq_false_iff_not] at hc36
          have h36 : ¬ (commonL m.toList = true ∨ AllowsR hs methS (lower m.toList) creds) := of_decide_eq_true hcb36
          refine CW.seq ?_
          -- region 4
          refine CW.region ?_
          refine RW.op1 rfl (runs_assign rfl) ?_
          refine RW.done ?_
          refine AQ.next ?_
          refine CW.ret ?_
          refine AQ.past_ret ?_
          refine AQ.ret1 rfl rfl ?_
          refine ⟨_, hle, ?_, hst.drop1.drop1⟩
          rw [decide_eq_false (fun h => h36 h.2.1)]
        · have hcb36 := hc36
          try simp only [decide_eq_true_eq, decide_eq_false_iff_not] at hc36
          have h36 : commonL m.toList = true ∨ AllowsR hs methS (lower m.toList) creds := Decidable.not_not.1 (of_decide_eq_false hcb36)
          refine CW.skip ?_
          refine AQ.next ?_
          refine CW.seq ?_
          -- region 5
          refine CW.region ?_
          refine RW.op1 rfl (runs_move rfl) ?_
          refine RW.call rfl call29 rfl rfl (unsafe_spec hst hM hl hlk) ?_
          rintro e w ⟨I7, vu, ls, hI7, rfl, hu, hmem, hul, hstn⟩
          clear hst
          have hst := hstn
          clear hstn
          replace hM := hM.mono hI7
          replace hv := hv.mono hI7
          replace hl := hl.mono hI7
          replace hle := hle.trans hI7
          refine ⟨_, rfl, ?_⟩
          refine RW.op1 rfl (runs_makeFunc (vs := [_, _]) rfl) ?_
          refine RW.call rfl call28 rfl rfl (containsFunc_spec hst hu hul (f := 30) (cs := [.pointer (some ⟨b1, 0, none⟩), .pointer (some ⟨b2, 0, none⟩)]) call30 (fun x => !decide (AllowsR hs ahdsS x creds)) (fun x hx w1 I1 hI1 hst1 => pre1_spec hst1 (hM.mono hI1) (RdL.mono hI1 hv) hok x)) ?_
          rintro e w ⟨I8, hI8, rfl, hstn⟩
          clear hst
          have hst := hstn
          clear hstn
          replace hM := hM.mono hI8
          replace hv := hv.mono hI8
          replace hl := hl.mono hI8
          replace hu := hu.mono hI8
          replace hle := hle.trans hI8
          refine ⟨_, rfl, ?_⟩
          refine RW.op1 rfl (runs_not rfl) ?_
          refine RW.op1 rfl (runs_assign rfl) ?_
          refine RW.done ?_
          refine AQ.next ?_
          refine CW.ret ?_
          refine AQ.ret1 rfl rfl ?_
          refine ⟨_, hle, ?_, hst.drop1.drop1⟩
          congr 2
          rw [Bool.eq_iff_iff, decide_eq_true_iff]
          simp only [Bool.not_eq_true', List.any_eq_false, Bool.not_eq_true, Bool.not_eq_false', decide_eq_true_eq]
          exact ⟨fun h => ⟨h25, h36, fun n hn => by have := h n ((hmem n).2 hn); simpa using this⟩, fun h n hn => by have := h.2.2 n ((hmem n).1 hn); simpa using this⟩
set_option maxRecDepth 100000 in
set_option maxHeartbeats 1000000 in
theorem plain_spec {w0 w : World} {I : Imm} {L : Own} (hst : St w0 w I L) (hM : MaxK I) {vl : Value} {l : List HRow} (hl : RdH I vl l) (hlk : HB l) (m : ByteArray) :
    Calls Tryd.prog 14 #[.string m, vl] w fun e w' => ∃ I', Imm.le I I' ∧ e = .returned (.bool (plainL m.toList l)) ∧ St w0 w' I' L := by
  refine enter Tryd.func14 rfl (N := 13) rfl rfl ?_
  simp only [List.zipIdx_cons, List.zipIdx_nil, List.map_cons, List.map_nil, Nat.zero_add, Nat.reduceAdd]
  have hle := Imm.le.refl I
  refine CW.seq ?_
  -- region 0
  refine CW.region ?_
  refine RW.op1 rfl (runs_assign rfl) ?_
  refine RW.done ?_
  refine AQ.next ?_
  refine CW.seq ?_
  -- region 1
  refine CW.region ?_
  refine RW.op1 rfl (runs_move rfl) ?_
  refine RW.call rfl call26 rfl rfl (common_spec hst m) ?_
  rintro e w ⟨I1, hI1, rfl, hstn⟩
  clear hst
  have hst := hstn
  clear hstn
  replace hM := hM.mono hI1
  replace hl := hl.mono hI1
  replace hle := hle.trans hI1
  refine ⟨_, rfl, ?_⟩
  refine RW.op1 rfl (runs_move rfl) ?_
  refine RW.split (t := 7) rfl (fun hb7 => ?_) (fun hb7 => ?_)
  · have hb7p := hb7
    try simp only [decide_eq_true_eq, decide_eq_false_iff_not] at hb7p
    refine RW.on_guard rfl rfl rfl rfl hb7 ?_
    refine RW.op1 rfl (runs_move rfl) ?_
    refine RW.on_guard rfl rfl rfl rfl hb7 ?_
    refine RW.call rfl call29 rfl rfl (unsafe_spec hst hM hl hlk) ?_
    rintro e w ⟨I2, vu, ls, hI2, rfl, hu, hmem, hul, hstn⟩
    clear hst
    have hst := hstn
    clear hstn
    replace hM := hM.mono hI2
    replace hl := hl.mono hI2
    replace hle := hle.trans hI2
    refine ⟨_, rfl, ?_⟩
    refine RW.on_guard rfl rfl rfl rfl hb7 ?_
    refine RW.op1 rfl (RdL.len Tryd.underlying23 rfl hu) ?_
    rw [List.length_map]
    refine RW.on_guard rfl rfl rfl rfl hb7 ?_
    refine RW.op1 rfl (runs_eqI rfl rfl) ?_
    refine RW.op1 rfl (runs_pick_true rfl hb7 rfl) ?_
    refine RW.op1 rfl (runs_assign rfl) ?_
    refine RW.done ?_
    refine AQ.next ?_
    refine CW.ret ?_
    refine AQ.ret1 rfl rfl ?_
    refine ⟨_, hle, ?_, hst⟩
    unfold plainL
    rw [hb7, Bool.true_and]
    congr 2
    rw [decide_eq_decide]
    rw [← nil_mem hmem]
    constructor
    · intro h; exact List.eq_nil_of_length_eq_zero (by omega)
    · intro h; rw [h]; rfl
  · have hb7p := hb7
    try simp only [decide_eq_true_eq, decide_eq_false_iff_not] at hb7p
    refine RW.off_guard rfl rfl rfl rfl hb7 ?_
    refine RW.off_guard rfl rfl rfl rfl hb7 ?_
    refine RW.off_guard rfl rfl rfl rfl hb7 ?_
    refine RW.off_guard rfl rfl rfl rfl hb7 ?_
    refine RW.op1 rfl (runs_pick_false rfl hb7 rfl) ?_
    refine RW.op1 rfl (runs_assign rfl) ?_
    refine RW.done ?_
    refine AQ.next ?_
    refine CW.ret ?_
    refine AQ.ret1 rfl rfl ?_
    refine ⟨_, hle, ?_, hst⟩
    unfold plainL
    rw [hb7, Bool.false_and]
theorem HB.nil : HB [] := ⟨by decide, by intro r hr; cases hr⟩
theorem plain_get : plainL (ByteArray.mk #[71, 69, 84]).toList [] = true := by rw [ByteArray.toList_eq]; rfl
theorem plain_put : plainL (ByteArray.mk #[80, 85, 84]).toList [] = false := by rw [ByteArray.toList_eq]; rfl
set_option maxRecDepth 100000 in
set_option maxHeartbeats 1000000 in
theorem wakes13_spec {w0 w : World} {I : Imm} {L : Own} (hst : St w0 w I L) (hM : MaxK I) :
    Calls Tryd.prog 11 #[] w fun e w' => e = .returned (.bool true) ∧ ∃ I', Imm.le I I' ∧ St w0 w' I' L := by
  refine enter Tryd.func11 rfl (N := 6) rfl rfl ?_
  simp only [List.zipIdx_cons, List.zipIdx_nil, List.map_cons, List.map_nil, Nat.zero_add, Nat.reduceAdd]
  have hle := Imm.le.refl I
  refine CW.seq ?_
  -- region 0
  refine CW.region ?_
  refine RW.op1 rfl (runs_assign rfl) ?_
  refine RW.done ?_
  refine AQ.next ?_
  refine CW.seq ?_
  -- region 1
  refine CW.region ?_
  refine RW.call rfl call14 rfl rfl (plain_spec hst hM (show RdH _ (.slice none 0 0) [] from RdL.nil 2) HB.nil ⟨#[71, 69, 84]⟩) ?_
  rintro e w ⟨I1, hI1, rfl, hstn⟩
  clear hst
  have hst := hstn
  clear hstn
  replace hM := hM.mono hI1
  replace hle := hle.trans hI1
  refine ⟨_, rfl, ?_⟩
  refine RW.op1 rfl (runs_move rfl) ?_
  have hk2 := plain_get
  refine RW.on_guard rfl rfl rfl rfl hk2 ?_
  refine RW.call rfl call14 rfl rfl (plain_spec hst hM (show RdH _ (.slice none 0 0) [] from RdL.nil 2) HB.nil ⟨#[80, 85, 84]⟩) ?_
  rintro e w ⟨I2, hI2, rfl, hstn⟩
  clear hst
  have hst := hstn
  clear hstn
  replace hM := hM.mono hI2
  replace hle := hle.trans hI2
  refine ⟨_, rfl, ?_⟩
  refine RW.on_guard rfl rfl rfl rfl hk2 ?_
  refine RW.op1 rfl (runs_not rfl) ?_
  refine RW.op1 rfl (runs_pick_true rfl hk2 rfl) ?_
  refine RW.op1 rfl (runs_assign rfl) ?_
  refine RW.done ?_
  refine AQ.next ?_
  refine CW.ret ?_
  refine AQ.ret1 rfl rfl ?_
  rw [plain_put]
  exact ⟨rfl, _, hle, hst⟩
end Go.Proofs.YtfdgnjbbchkgpaaDoorX
