/- Who may read, who may ask further: what these come to. -/
import Derived.Test.YtfdgnjbbchkgpaaDoorT
import Derived.Test.YtfdgnjbbchkgpaaDoorC3
import Derived.Test.YtfdgnjbbchkgpaaDoorXY
namespace Go.Proofs.YtfdgnjbbchkgpaaDoorX
set_option linter.unusedVariables false
set_option linter.unusedSimpArgs false
open Go Go.RowKit Go.Proofs

theorem HB.names {hs : List HRow} (h : HB hs) : ∀ r ∈ hs, r.1.size ≤ 9223372036854775807 := fun r hr => by have := (h.2 r hr).1; omega
theorem HB.val {hs : List HRow} (h : HB hs) (n : ByteArray) : (getH n hs).1.size ≤ 4294967280 := by
  unfold getH
  split
  · rename_i r hf
    exact (h.2 r (List.mem_of_find?_eq_some hf)).2
  · exact Nat.zero_le _
def allowO : ByteArray := ⟨#[97, 108, 108, 111, 119, 45, 111, 114, 105, 103, 105, 110]⟩
def acredS : ByteArray := ⟨#[97, 108, 108, 111, 119, 45, 99, 114, 101, 100, 115]⟩
def methS : ByteArray := ⟨#[97, 108, 108, 111, 119, 45, 109, 101, 116, 104, 111, 100, 115]⟩
def ahdsS : ByteArray := ⟨#[97, 108, 108, 111, 119, 45, 104, 101, 97, 100, 115]⟩
def trueL : List UInt8 := [116, 114, 117, 101]
def fromR (a o : List UInt8) (creds : Bool) : Prop := a = o ∨ (a = [42] ∧ creds = false)
instance (a o : List UInt8) (creds : Bool) : Decidable (fromR a o creds) := by unfold fromR; infer_instance
def CheckR (hs : List HRow) (o : List UInt8) (creds : Bool) : Prop := ((getH allowO hs).2 = true ∧ fromR (getH allowO hs).1.toList o creds) ∧ (creds = false ∨ (getH acredS hs).1.toList = trueL)
instance (hs : List HRow) (o : List UInt8) (creds : Bool) : Decidable (CheckR hs o creds) := by unfold CheckR; infer_instance
def inR (ls : List (List UInt8)) (word : List UInt8) (creds : Bool) : Prop := word ∈ ls ∨ (creds = false ∧ [42] ∈ ls)
instance (ls : List (List UInt8)) (word : List UInt8) (creds : Bool) : Decidable (inR ls word creds) := by unfold inR; infer_instance
def AllowsR (hs : List HRow) (nm : ByteArray) (word : List UInt8) (creds : Bool) : Prop := inR (partsL (getH nm hs).1.toList) word creds
instance (hs : List HRow) (nm : ByteArray) (word : List UInt8) (creds : Bool) : Decidable (AllowsR hs nm word creds) := by unfold AllowsR; infer_instance
def preOk (code : Int) (hs : List HRow) (o : List UInt8) (creds : Bool) : Prop := 200 ≤ code ∧ code ≤ 299 ∧ CheckR hs o creds
instance (code : Int) (hs : List HRow) (o : List UInt8) (creds : Bool) : Decidable (preOk code hs o creds) := by unfold preOk; infer_instance
def PreR (code : Int) (hs : List HRow) (o : List UInt8) (creds : Bool) (m : List UInt8) (l : List HRow) : Prop :=
  preOk code hs o creds ∧ (commonL m = true ∨ AllowsR hs methS (lower m) creds) ∧ ∀ n ∈ unsafeL l, AllowsR hs ahdsS n creds
instance (code : Int) (hs : List HRow) (o : List UInt8) (creds : Bool) (m : List UInt8) (l : List HRow) : Decidable (PreR code hs o creds m l) := by unfold PreR; infer_instance
theorem nil_mem {a b : List (List UInt8)} (h : ∀ x, x ∈ a ↔ x ∈ b) : a = [] ↔ b = [] := by
  rw [List.eq_nil_iff_forall_not_mem, List.eq_nil_iff_forall_not_mem]
  exact ⟨fun h1 x hx => h1 x ((h x).2 hx), fun h1 x hx => h1 x ((h x).1 hx)⟩
set_option maxRecDepth 100000 in
set_option maxHeartbeats 1000000 in
theorem check_spec {w0 w : World} {I : Imm} {L : Own} (hst : St w0 w I L) {vh : Value} {hs : List HRow} (hv : RdH I vh hs) (hok : HB hs) (code : Int) (body : ByteArray) (cut : Bool) (o : ByteArray) (creds : Bool) :
    Calls Tryd.prog 12 #[.agg #[.int .i64 code, vh, .string body, .bool cut], .string o, .bool creds] w fun e w' => ∃ I', Imm.le I I' ∧ e = .returned (.bool (decide (CheckR hs o.toList creds))) ∧ St w0 w' I' L := by
  obtain ⟨hA, hcap, rfl⟩ : ∃ A c, vh = .slice A hs.length c := by obtain ⟨_, _, A, c, e, _⟩ := hv; exact ⟨A, c, e⟩
  refine enter Tryd.func12 rfl (N := 43) rfl rfl ?_
  simp only [List.zipIdx_cons, List.zipIdx_nil, List.map_cons, List.map_nil, Nat.zero_add, Nat.reduceAdd]
  have hle := Imm.le.refl I
  refine CW.seq ?_
  -- region 0
  refine CW.region ?_
  refine RW.opE rfl (runs_box rfl hst) ?_
  rintro _ w ⟨b1, rfl, hstn⟩
  clear hst
  have hst := hstn
  clear hstn
  refine RW.op1 rfl (runs_assign rfl) ?_
  refine RW.done ?_
  refine AQ.next ?_
  refine CW.seq ?_
  -- region 1
  refine CW.region ?_
  first
    | refine RW.op1 rfl (runs_fieldAddr0 rfl Tryd.underlying35 rfl ti31 (by decide)) ?_
    | refine RW.op1 rfl (runs_fieldAddr rfl Tryd.underlying35 rfl ti31 (by decide)) ?_
  first
    | refine RW.op1 rfl (runs_load1 sc31 rfl (hst.cell_own (k := 0) rfl rfl)) ?_
    | refine RW.op1 rfl (runs_load1 sc31 rfl (hst.cell_own (k := 1) rfl rfl)) ?_
    | refine RW.op1 rfl (runs_load1 sc31 rfl (hst.cell_own (k := 2) rfl rfl)) ?_
  refine RW.call rfl call25 rfl rfl (get_spec hst allowO (by decide) hv hok.names hok.1) ?_
  rintro e w ⟨I2, hI2, rfl, hstn⟩
  clear hst
  have hst := hstn
  clear hstn
  obtain ⟨⟨a, is⟩, hga⟩ : ∃ p, getH allowO hs = p := ⟨_, rfl⟩
  obtain ⟨⟨c, is2⟩, hgc⟩ : ∃ p, getH acredS hs = p := ⟨_, rfl⟩
  have hck : CheckR hs o.toList creds ↔ (is = true ∧ fromR a.toList o.toList creds) ∧ (creds = false ∨ c.toList = trueL) := by unfold CheckR; rw [hga, hgc]
  rw [hga]
  have g1 : (ByteArray.mk #[42]).toList = [42] := litL _
  have g2 : (ByteArray.mk #[116, 114, 117, 101]).toList = trueL := litL _
  dsimp only
  replace hv := hv.mono hI2
  replace hle := hle.trans hI2
  refine ⟨_, rfl, ?_⟩
  refine RW.op1 rfl (runs_move rfl) ?_
  refine RW.op1 rfl (runs_extract rfl rfl) ?_
  refine RW.op1 rfl (runs_extract rfl rfl) ?_
  refine RW.op1 rfl (runs_assign rfl) ?_
  refine RW.op1 rfl (runs_assign rfl) ?_
  refine RW.done ?_
  refine AQ.next ?_
  refine CW.seq ?_
  refine CW.seq ?_
  -- region 2
  refine CW.cut Unit (fun _ w => St w0 w I2 ((b1, Obj.cells (Value.agg #[.int .i64 code, .slice hA hs.length hcap, .string body, .bool cut]).cells 35) :: L)) (fun _ => [(2, .bool creds), (3, .pointer (some ⟨b1, 0, none⟩)), (30, .bool (decide (¬ (is = true ∧ fromR a.toList o.toList creds))))]) ?_ ?_
  · -- region 2
    refine CW.region ?_
    refine RW.op1 rfl (runs_move rfl) ?_
    refine RW.op1 rfl (runs_not rfl) ?_
    refine RW.op1 rfl (runs_move rfl) ?_
    refine RW.split (t := 19) rfl (fun hb19 => ?_) (fun hb19 => ?_)
    · have hb19p := hb19
      try simp only [decide_eq_true_eq, decide_eq_false_iff_not] at hb19p
      refine RW.off_guard rfl rfl rfl rfl hb19 ?_
      refine RW.off_guard rfl rfl rfl rfl hb19 ?_
      refine RW.off_guard rfl rfl rfl rfl hb19 ?_
      refine RW.off_guard rfl rfl rfl rfl hb19 ?_
      refine RW.off_undef rfl rfl rfl rfl ?_
      refine RW.off_undef rfl rfl rfl rfl ?_
      refine RW.off_undef rfl rfl rfl rfl ?_
      refine RW.off_undef rfl rfl rfl rfl ?_
      refine RW.off_undef rfl rfl rfl rfl ?_
      refine RW.off_guard rfl rfl rfl rfl hb19 ?_
      refine RW.op1 rfl (runs_pick_true rfl hb19 rfl) ?_
      refine RW.done ?_
      exact AQ.meet () hst ⟨rfl, rfl, boolN (by unfold fromR; clear hck hga hgc hst; generalize a.toList = A at *; generalize o.toList = O at *; cases is <;> cases creds <;> simp_all), trivial⟩
    · have hb19p := hb19
      try simp only [decide_eq_true_eq, decide_eq_false_iff_not] at hb19p
      refine RW.on_guard rfl rfl rfl rfl hb19 ?_
      refine RW.op1 rfl (runs_move rfl) ?_
      refine RW.on_guard rfl rfl rfl rfl hb19 ?_
      refine RW.op1 rfl (runs_move rfl) ?_
      refine RW.on_guard rfl rfl rfl rfl hb19 ?_
      refine RW.op1 rfl (runs_neS rfl rfl) ?_
      refine RW.on_guard rfl rfl rfl rfl hb19 ?_
      refine RW.op1 rfl (runs_move rfl) ?_
      refine RW.split (t := 23) rfl (fun hb23 => ?_) (fun hb23 => ?_)
      · have hb23p := hb23
        try simp only [decide_eq_true_eq, decide_eq_false_iff_not] at hb23p
        refine RW.on_guard rfl rfl rfl rfl hb23 ?_
        refine RW.op1 rfl (runs_move rfl) ?_
        refine RW.on_guard rfl rfl rfl rfl hb23 ?_
        refine RW.op1 rfl (runs_neS rfl rfl) ?_
        refine RW.on_guard rfl rfl rfl rfl hb23 ?_
        refine RW.op1 rfl (runs_move rfl) ?_
        refine RW.split (t := 26) rfl (fun hb26 => ?_) (fun hb26 => ?_)
        · have hb26p := hb26
          try simp only [decide_eq_true_eq, decide_eq_false_iff_not] at hb26p
          refine RW.off_guard rfl rfl rfl rfl hb26 ?_
          refine RW.on_guard rfl rfl rfl rfl hb23 ?_
          refine RW.op1 rfl (runs_pick_true rfl hb26 rfl) ?_
          refine RW.on_guard rfl rfl rfl rfl hb19 ?_
          refine RW.op1 rfl (runs_pick_true rfl hb23 rfl) ?_
          refine RW.op1 rfl (runs_pick_false rfl hb19 rfl) ?_
          refine RW.done ?_
          exact AQ.meet () hst ⟨rfl, rfl, boolN (by unfold fromR; clear hck hga hgc hst; generalize a.toList = A at *; generalize o.toList = O at *; cases is <;> cases creds <;> simp_all), trivial⟩
        · have hb26p := hb26
          try simp only [decide_eq_true_eq, decide_eq_false_iff_not] at hb26p
          refine RW.on_guard rfl rfl rfl rfl hb26 ?_
          refine RW.op1 rfl (runs_move rfl) ?_
          refine RW.on_guard rfl rfl rfl rfl hb23 ?_
          refine RW.op1 rfl (runs_pick_false rfl hb26 rfl) ?_
          refine RW.on_guard rfl rfl rfl rfl hb19 ?_
          refine RW.op1 rfl (runs_pick_true rfl hb23 rfl) ?_
          refine RW.op1 rfl (runs_pick_false rfl hb19 rfl) ?_
          refine RW.done ?_
          exact AQ.meet () hst ⟨rfl, rfl, boolN (by unfold fromR; clear hck hga hgc hst; generalize a.toList = A at *; generalize o.toList = O at *; cases is <;> cases creds <;> simp_all), trivial⟩
      · have hb23p := hb23
        try simp only [decide_eq_true_eq, decide_eq_false_iff_not] at hb23p
        refine RW.off_guard rfl rfl rfl rfl hb23 ?_
        refine RW.off_guard rfl rfl rfl rfl hb23 ?_
        refine RW.off_guard rfl rfl rfl rfl hb23 ?_
        refine RW.off_undef rfl rfl rfl rfl ?_
        refine RW.off_guard rfl rfl rfl rfl hb23 ?_
        refine RW.on_guard rfl rfl rfl rfl hb19 ?_
        refine RW.op1 rfl (runs_pick_false rfl hb23 rfl) ?_
        refine RW.op1 rfl (runs_pick_false rfl hb19 rfl) ?_
        refine RW.done ?_
        exact AQ.meet () hst ⟨rfl, rfl, boolN (by unfold fromR; clear hck hga hgc hst; generalize a.toList = A at *; generalize o.toList = O at *; cases is <;> cases creds <;> simp_all), trivial⟩
  · rintro _ w hstn
    clear hst
    have hst := hstn
    clear hstn
    refine AQ.next ?_
    refine CW.cond rfl (fun hc30 => ?_) (fun hc30 => ?_)
    · have hcb30 := hc30
      try simp only [decide_eq_true_eq, decide_eq_false_iff_not] at hc30
      have h30 : ¬ (is = true ∧ fromR a.toList o.toList creds) := of_decide_eq_true hcb30
      refine CW.seq ?_
      -- region 3
      refine CW.region ?_
      refine RW.op1 rfl (runs_assign rfl) ?_
      refine RW.done ?_
      refine AQ.next ?_
      refine CW.ret ?_
      refine AQ.past_ret ?_
      refine AQ.ret1 rfl rfl ?_
      refine ⟨_, hle, ?_, hst.drop1⟩
      rw [decide_eq_false (fun h => h30 (hck.1 h).1)]
    · have hcb30 := hc30
      try simp only [decide_eq_true_eq, decide_eq_false_iff_not] at hc30
      have h30 : is = true ∧ fromR a.toList o.toList creds := by simpa using hcb30
      refine CW.skip ?_
      refine AQ.next ?_
      refine CW.seq ?_
      -- region 4
      refine CW.region ?_
      first
        | refine RW.op1 rfl (runs_fieldAddr0 rfl Tryd.underlying35 rfl ti31 (by decide)) ?_
        | refine RW.op1 rfl (runs_fieldAddr rfl Tryd.underlying35 rfl ti31 (by decide)) ?_
      first
        | refine RW.op1 rfl (runs_load1 sc31 rfl (hst.cell_own (k := 0) rfl rfl)) ?_
        | refine RW.op1 rfl (runs_load1 sc31 rfl (hst.cell_own (k := 1) rfl rfl)) ?_
        | refine RW.op1 rfl (runs_load1 sc31 rfl (hst.cell_own (k := 2) rfl rfl)) ?_
      refine RW.call rfl call25 rfl rfl (get_spec hst acredS (by decide) hv hok.names hok.1) ?_
      rintro e w ⟨I3, hI3, rfl, hstn⟩
      clear hst
      have hst := hstn
      clear hstn
      rw [hgc]
      dsimp only
      replace hv := hv.mono hI3
      replace hle := hle.trans hI3
      refine ⟨_, rfl, ?_⟩
      refine RW.op1 rfl (runs_move rfl) ?_
      refine RW.op1 rfl (runs_extract rfl rfl) ?_
      refine RW.op1 rfl (runs_extract rfl rfl) ?_
      refine RW.op1 rfl (runs_assign rfl) ?_
      refine RW.op1 rfl (runs_assign rfl) ?_
      refine RW.done ?_
      refine AQ.next ?_
      refine CW.seq ?_
      -- region 5
      refine CW.region ?_
      refine RW.op1 rfl (runs_move rfl) ?_
      refine RW.op1 rfl (runs_not rfl) ?_
      refine RW.op1 rfl (runs_move rfl) ?_
      refine RW.split (t := 39) rfl (fun hb39 => ?_) (fun hb39 => ?_)
      · have hb39p := hb39
        try simp only [decide_eq_true_eq, decide_eq_false_iff_not] at hb39p
        refine RW.off_guard rfl rfl rfl rfl hb39 ?_
        refine RW.off_guard rfl rfl rfl rfl hb39 ?_
        refine RW.op1 rfl (runs_pick_true rfl hb39 rfl) ?_
        refine RW.op1 rfl (runs_assign rfl) ?_
        refine RW.done ?_
        refine AQ.next ?_
        refine CW.ret ?_
        refine AQ.ret1 rfl rfl ?_
        refine ⟨_, hle, ?_, hst.drop1⟩
        rw [decide_eq_true (hck.2 ⟨h30, .inl (by simpa using hb39)⟩)]
      · have hb39p := hb39
        try simp only [decide_eq_true_eq, decide_eq_false_iff_not] at hb39p
        refine RW.on_guard rfl rfl rfl rfl hb39 ?_
        refine RW.op1 rfl (runs_move rfl) ?_
        refine RW.on_guard rfl rfl rfl rfl hb39 ?_
        refine RW.op1 rfl (runs_eqS rfl rfl) ?_
        refine RW.op1 rfl (runs_pick_false rfl hb39 rfl) ?_
        refine RW.op1 rfl (runs_assign rfl) ?_
        refine RW.done ?_
        refine AQ.next ?_
        refine CW.ret ?_
        refine AQ.ret1 rfl rfl ?_
        refine ⟨_, hle, ?_, hst.drop1⟩
        congr 2
        rw [g2]
        symm
        rw [show (decide (CheckR hs o.toList creds)) = decide (c.toList = trueL) from decide_eq_decide.2 ⟨fun h => ((hck.1 h).2).resolve_left (by intro e; rw [e] at hb39; simp at hb39), fun h => hck.2 ⟨h30, .inr h⟩⟩]
        by_cases h : c.toList = trueL <;> simp [h]
set_option maxRecDepth 100000 in
set_option maxHeartbeats 1000000 in
theorem refCors_spec {w0 w : World} {I : Imm} {L : Own} (hst : St w0 w I L) {vh : Value} {hs : List HRow} (hv : RdH I vh hs) (hok : HB hs) (code : Int) (body : ByteArray) (cut : Bool) (o : ByteArray) (creds : Bool) :
    Calls Tryd.prog 19 #[.agg #[.int .i64 code, vh, .string body, .bool cut], .string o, .bool creds] w fun e w' => ∃ I', Imm.le I I' ∧ e = .returned (.bool (decide (CheckR hs o.toList creds))) ∧ St w0 w' I' L := by
  obtain ⟨hA, hcap, rfl⟩ : ∃ A c, vh = .slice A hs.length c := by obtain ⟨_, _, A, c, e, _⟩ := hv; exact ⟨A, c, e⟩
  refine enter Tryd.func19 rfl (N := 43) rfl rfl ?_
  simp only [List.zipIdx_cons, List.zipIdx_nil, List.map_cons, List.map_nil, Nat.zero_add, Nat.reduceAdd]
  have hle := Imm.le.refl I
  refine CW.seq ?_
  -- region 0
  refine CW.region ?_
  refine RW.opE rfl (runs_box rfl hst) ?_
  rintro _ w ⟨b1, rfl, hstn⟩
  clear hst
  have hst := hstn
  clear hstn
  refine RW.op1 rfl (runs_assign rfl) ?_
  refine RW.done ?_
  refine AQ.next ?_
  refine CW.seq ?_
  -- region 1
  refine CW.region ?_
  first
    | refine RW.op1 rfl (runs_fieldAddr0 rfl Tryd.underlying40 rfl ti31 (by decide)) ?_
    | refine RW.op1 rfl (runs_fieldAddr rfl Tryd.underlying40 rfl ti31 (by decide)) ?_
  first
    | refine RW.op1 rfl (runs_load1 sc31 rfl (hst.cell_own (k := 0) rfl rfl)) ?_
    | refine RW.op1 rfl (runs_load1 sc31 rfl (hst.cell_own (k := 1) rfl rfl)) ?_
    | refine RW.op1 rfl (runs_load1 sc31 rfl (hst.cell_own (k := 2) rfl rfl)) ?_
  refine RW.call rfl call35 rfl rfl (refGet_spec hst allowO (by decide) hv hok.names hok.1) ?_
  rintro e w ⟨I2, hI2, rfl, hstn⟩
  clear hst
  have hst := hstn
  clear hstn
  obtain ⟨⟨a, is⟩, hga⟩ : ∃ p, getH allowO hs = p := ⟨_, rfl⟩
  obtain ⟨⟨c, is2⟩, hgc⟩ : ∃ p, getH acredS hs = p := ⟨_, rfl⟩
  have hck : CheckR hs o.toList creds ↔ (is = true ∧ fromR a.toList o.toList creds) ∧ (creds = false ∨ c.toList = trueL) := by unfold CheckR; rw [hga, hgc]
  rw [hga]
  have g1 : (ByteArray.mk #[42]).toList = [42] := litL _
  have g2 : (ByteArray.mk #[116, 114, 117, 101]).toList = trueL := litL _
  dsimp only
  replace hv := hv.mono hI2
  replace hle := hle.trans hI2
  refine ⟨_, rfl, ?_⟩
  refine RW.op1 rfl (runs_move rfl) ?_
  refine RW.op1 rfl (runs_extract rfl rfl) ?_
  refine RW.op1 rfl (runs_extract rfl rfl) ?_
  refine RW.op1 rfl (runs_assign rfl) ?_
  refine RW.op1 rfl (runs_assign rfl) ?_
  refine RW.done ?_
  refine AQ.next ?_
  refine CW.seq ?_
  refine CW.seq ?_
  -- region 2
  refine CW.cut Unit (fun _ w => St w0 w I2 ((b1, Obj.cells (Value.agg #[.int .i64 code, .slice hA hs.length hcap, .string body, .bool cut]).cells 40) :: L)) (fun _ => [(2, .bool creds), (3, .pointer (some ⟨b1, 0, none⟩)), (30, .bool (decide (¬ (is = true ∧ fromR a.toList o.toList creds))))]) ?_ ?_
  · -- region 2
    refine CW.region ?_
    refine RW.op1 rfl (runs_move rfl) ?_
    refine RW.op1 rfl (runs_not rfl) ?_
    refine RW.op1 rfl (runs_move rfl) ?_
    refine RW.split (t := 19) rfl (fun hb19 => ?_) (fun hb19 => ?_)
    · have hb19p := hb19
      try simp only [decide_eq_true_eq, decide_eq_false_iff_not] at hb19p
      refine RW.off_guard rfl rfl rfl rfl hb19 ?_
      refine RW.off_guard rfl rfl rfl rfl hb19 ?_
      refine RW.off_guard rfl rfl rfl rfl hb19 ?_
      refine RW.off_guard rfl rfl rfl rfl hb19 ?_
      refine RW.off_undef rfl rfl rfl rfl ?_
      refine RW.off_undef rfl rfl rfl rfl ?_
      refine RW.off_undef rfl rfl rfl rfl ?_
      refine RW.off_undef rfl rfl rfl rfl ?_
      refine RW.off_undef rfl rfl rfl rfl ?_
      refine RW.off_guard rfl rfl rfl rfl hb19 ?_
      refine RW.op1 rfl (runs_pick_true rfl hb19 rfl) ?_
      refine RW.done ?_
      exact AQ.meet () hst ⟨rfl, rfl, boolN (by unfold fromR; clear hck hga hgc hst; generalize a.toList = A at *; generalize o.toList = O at *; cases is <;> cases creds <;> simp_all), trivial⟩
    · have hb19p := hb19
      try simp only [decide_eq_true_eq, decide_eq_false_iff_not] at hb19p
      refine RW.on_guard rfl rfl rfl rfl hb19 ?_
      refine RW.op1 rfl (runs_move rfl) ?_
      refine RW.on_guard rfl rfl rfl rfl hb19 ?_
      refine RW.op1 rfl (runs_move rfl) ?_
      refine RW.on_guard rfl rfl rfl rfl hb19 ?_
      refine RW.op1 rfl (runs_neS rfl rfl) ?_
      refine RW.on_guard rfl rfl rfl rfl hb19 ?_
      refine RW.op1 rfl (runs_move rfl) ?_
      refine RW.split (t := 23) rfl (fun hb23 => ?_) (fun hb23 => ?_)
      · have hb23p := hb23
        try simp only [decide_eq_true_eq, decide_eq_false_iff_not] at hb23p
        refine RW.on_guard rfl rfl rfl rfl hb23 ?_
        refine RW.op1 rfl (runs_move rfl) ?_
        refine RW.on_guard rfl rfl rfl rfl hb23 ?_
        refine RW.op1 rfl (runs_neS rfl rfl) ?_
        refine RW.on_guard rfl rfl rfl rfl hb23 ?_
        refine RW.op1 rfl (runs_move rfl) ?_
        refine RW.split (t := 26) rfl (fun hb26 => ?_) (fun hb26 => ?_)
        · have hb26p := hb26
          try simp only [decide_eq_true_eq, decide_eq_false_iff_not] at hb26p
          refine RW.off_guard rfl rfl rfl rfl hb26 ?_
          refine RW.on_guard rfl rfl rfl rfl hb23 ?_
          refine RW.op1 rfl (runs_pick_true rfl hb26 rfl) ?_
          refine RW.on_guard rfl rfl rfl rfl hb19 ?_
          refine RW.op1 rfl (runs_pick_true rfl hb23 rfl) ?_
          refine RW.op1 rfl (runs_pick_false rfl hb19 rfl) ?_
          refine RW.done ?_
          exact AQ.meet () hst ⟨rfl, rfl, boolN (by unfold fromR; clear hck hga hgc hst; generalize a.toList = A at *; generalize o.toList = O at *; cases is <;> cases creds <;> simp_all), trivial⟩
        · have hb26p := hb26
          try simp only [decide_eq_true_eq, decide_eq_false_iff_not] at hb26p
          refine RW.on_guard rfl rfl rfl rfl hb26 ?_
          refine RW.op1 rfl (runs_move rfl) ?_
          refine RW.on_guard rfl rfl rfl rfl hb23 ?_
          refine RW.op1 rfl (runs_pick_false rfl hb26 rfl) ?_
          refine RW.on_guard rfl rfl rfl rfl hb19 ?_
          refine RW.op1 rfl (runs_pick_true rfl hb23 rfl) ?_
          refine RW.op1 rfl (runs_pick_false rfl hb19 rfl) ?_
          refine RW.done ?_
          exact AQ.meet () hst ⟨rfl, rfl, boolN (by unfold fromR; clear hck hga hgc hst; generalize a.toList = A at *; generalize o.toList = O at *; cases is <;> cases creds <;> simp_all), trivial⟩
      · have hb23p := hb23
        try simp only [decide_eq_true_eq, decide_eq_false_iff_not] at hb23p
        refine RW.off_guard rfl rfl rfl rfl hb23 ?_
        refine RW.off_guard rfl rfl rfl rfl hb23 ?_
        refine RW.off_guard rfl rfl rfl rfl hb23 ?_
        refine RW.off_undef rfl rfl rfl rfl ?_
        refine RW.off_guard rfl rfl rfl rfl hb23 ?_
        refine RW.on_guard rfl rfl rfl rfl hb19 ?_
        refine RW.op1 rfl (runs_pick_false rfl hb23 rfl) ?_
        refine RW.op1 rfl (runs_pick_false rfl hb19 rfl) ?_
        refine RW.done ?_
        exact AQ.meet () hst ⟨rfl, rfl, boolN (by unfold fromR; clear hck hga hgc hst; generalize a.toList = A at *; generalize o.toList = O at *; cases is <;> cases creds <;> simp_all), trivial⟩
  · rintro _ w hstn
    clear hst
    have hst := hstn
    clear hstn
    refine AQ.next ?_
    refine CW.cond rfl (fun hc30 => ?_) (fun hc30 => ?_)
    · have hcb30 := hc30
      try simp only [decide_eq_true_eq, decide_eq_false_iff_not] at hc30
      have h30 : ¬ (is = true ∧ fromR a.toList o.toList creds) := of_decide_eq_true hcb30
      refine CW.seq ?_
      -- region 3
      refine CW.region ?_
      refine RW.op1 rfl (runs_assign rfl) ?_
      refine RW.done ?_
      refine AQ.next ?_
      refine CW.ret ?_
      refine AQ.past_ret ?_
      refine AQ.ret1 rfl rfl ?_
      refine ⟨_, hle, ?_, hst.drop1⟩
      rw [decide_eq_false (fun h => h30 (hck.1 h).1)]
    · have hcb30 := hc30
      try simp only [decide_eq_true_eq, decide_eq_false_iff_not] at hc30
      have h30 : is = true ∧ fromR a.toList o.toList creds := by simpa using hcb30
      refine CW.skip ?_
      refine AQ.next ?_
      refine CW.seq ?_
      -- region 4
      refine CW.region ?_
      first
        | refine RW.op1 rfl (runs_fieldAddr0 rfl Tryd.underlying40 rfl ti31 (by decide)) ?_
        | refine RW.op1 rfl (runs_fieldAddr rfl Tryd.underlying40 rfl ti31 (by decide)) ?_
      first
        | refine RW.op1 rfl (runs_load1 sc31 rfl (hst.cell_own (k := 0) rfl rfl)) ?_
        | refine RW.op1 rfl (runs_load1 sc31 rfl (hst.cell_own (k := 1) rfl rfl)) ?_
        | refine RW.op1 rfl (runs_load1 sc31 rfl (hst.cell_own (k := 2) rfl rfl)) ?_
      refine RW.call rfl call35 rfl rfl (refGet_spec hst acredS (by decide) hv hok.names hok.1) ?_
      rintro e w ⟨I3, hI3, rfl, hstn⟩
      clear hst
      have hst := hstn
      clear hstn
      rw [hgc]
      dsimp only
      replace hv := hv.mono hI3
      replace hle := hle.trans hI3
      refine ⟨_, rfl, ?_⟩
      refine RW.op1 rfl (runs_move rfl) ?_
      refine RW.op1 rfl (runs_extract rfl rfl) ?_
      refine RW.op1 rfl (runs_extract rfl rfl) ?_
      refine RW.op1 rfl (runs_assign rfl) ?_
      refine RW.op1 rfl (runs_assign rfl) ?_
      refine RW.done ?_
      refine AQ.next ?_
      refine CW.seq ?_
      -- region 5
      refine CW.region ?_
      refine RW.op1 rfl (runs_move rfl) ?_
      refine RW.op1 rfl (runs_not rfl) ?_
      refine RW.op1 rfl (runs_move rfl) ?_
      refine RW.split (t := 39) rfl (fun hb39 => ?_) (fun hb39 => ?_)
      · have hb39p := hb39
        try simp only [decide_eq_true_eq, decide_eq_false_iff_not] at hb39p
        refine RW.off_guard rfl rfl rfl rfl hb39 ?_
        refine RW.off_guard rfl rfl rfl rfl hb39 ?_
        refine RW.op1 rfl (runs_pick_true rfl hb39 rfl) ?_
        refine RW.op1 rfl (runs_assign rfl) ?_
        refine RW.done ?_
        refine AQ.next ?_
        refine CW.ret ?_
        refine AQ.ret1 rfl rfl ?_
        refine ⟨_, hle, ?_, hst.drop1⟩
        rw [decide_eq_true (hck.2 ⟨h30, .inl (by simpa using hb39)⟩)]
      · have hb39p := hb39
        try simp only [decide_eq_true_eq, decide_eq_false_iff_not] at hb39p
        refine RW.on_guard rfl rfl rfl rfl hb39 ?_
        refine RW.op1 rfl (runs_move rfl) ?_
        refine RW.on_guard rfl rfl rfl rfl hb39 ?_
        refine RW.op1 rfl (runs_eqS rfl rfl) ?_
        refine RW.op1 rfl (runs_pick_false rfl hb39 rfl) ?_
        refine RW.op1 rfl (runs_assign rfl) ?_
        refine RW.done ?_
        refine AQ.next ?_
        refine CW.ret ?_
        refine AQ.ret1 rfl rfl ?_
        refine ⟨_, hle, ?_, hst.drop1⟩
        congr 2
        rw [g2]
        symm
        rw [show (decide (CheckR hs o.toList creds)) = decide (c.toList = trueL) from decide_eq_decide.2 ⟨fun h => ((hck.1 h).2).resolve_left (by intro e; rw [e] at hb39; simp at hb39), fun h => hck.2 ⟨h30, .inr h⟩⟩]
        by_cases h : c.toList = trueL <;> simp [h]
set_option maxRecDepth 100000 in
set_option maxHeartbeats 1000000 in
theorem allows_spec {w0 w : World} {I : Imm} {L : Own} (hst : St w0 w I L) (hM : MaxK I) {vh : Value} {hs : List HRow} (hv : RdH I vh hs) (hok : HB hs) (code : Int) (body : ByteArray) (cut : Bool) (nm word : ByteArray) (hnm : nm.size ≤ 9223372036854775807) (creds : Bool) :
    Calls Tryd.prog 27 #[.agg #[.int .i64 code, vh, .string body, .bool cut], .string nm, .string word, .bool creds] w fun e w' => ∃ I', Imm.le I I' ∧ e = .returned (.bool (decide (AllowsR hs nm word.toList creds))) ∧ St w0 w' I' L := by
  obtain ⟨hA, hcap, rfl⟩ : ∃ A c, vh = .slice A hs.length c := by obtain ⟨_, _, A, c, e, _⟩ := hv; exact ⟨A, c, e⟩
  have hval := hok.val nm
  have hvz := size_toList (getH nm hs).1
  have hpl := parts_len (getH nm hs).1.toList
  obtain ⟨ls, hls⟩ : ∃ l, partsL (getH nm hs).1.toList = l := ⟨_, rfl⟩
  have hin : AllowsR hs nm word.toList creds ↔ inR ls word.toList creds := by unfold AllowsR; rw [hls]
  rw [hls] at hpl
  have g1 : (ByteArray.mk #[42]).toList = [42] := litL _
  obtain ⟨c1, h1⟩ : ∃ b, ls.contains word.toList = b := ⟨_, rfl⟩
  obtain ⟨c2, h2⟩ : ∃ b, ls.contains [42] = b := ⟨_, rfl⟩
  have hin2 : inR ls word.toList creds ↔ c1 = true ∨ (creds = false ∧ c2 = true) := by unfold inR; rw [← h1, ← h2, List.contains_iff_mem, List.contains_iff_mem]
  have hin3 : decide (AllowsR hs nm word.toList creds) = (c1 || (!creds && c2)) := by
    rw [Bool.eq_iff_iff, decide_eq_true_iff, hin, hin2]
    cases c1 <;> cases c2 <;> cases creds <;> simp
  clear hin hin2
  refine enter Tryd.func27 rfl (N := 32) rfl rfl ?_
  simp only [List.zipIdx_cons, List.zipIdx_nil, List.map_cons, List.map_nil, Nat.zero_add, Nat.reduceAdd]
  have hle := Imm.le.refl I
  refine CW.seq ?_
  -- region 0
  refine CW.region ?_
  refine RW.opE rfl (runs_box rfl hst) ?_
  rintro _ w ⟨b1, rfl, hstn⟩
  clear hst
  have hst := hstn
  clear hstn
  refine RW.op1 rfl (runs_assign rfl) ?_
  refine RW.done ?_
  refine AQ.next ?_
  refine CW.seq ?_
  -- region 1
  refine CW.region ?_
  refine RW.op1 rfl (runs_move rfl) ?_
  first
    | refine RW.op1 rfl (runs_fieldAddr0 rfl Tryd.underlying35 rfl ti31 (by decide)) ?_
    | refine RW.op1 rfl (runs_fieldAddr rfl Tryd.underlying35 rfl ti31 (by decide)) ?_
  first
    | refine RW.op1 rfl (runs_load1 sc31 rfl (hst.cell_own (k := 0) rfl rfl)) ?_
    | refine RW.op1 rfl (runs_load1 sc31 rfl (hst.cell_own (k := 1) rfl rfl)) ?_
    | refine RW.op1 rfl (runs_load1 sc31 rfl (hst.cell_own (k := 2) rfl rfl)) ?_
  refine RW.call rfl call25 rfl rfl (get_spec hst nm hnm hv hok.names hok.1) ?_
  rintro e w ⟨I2, hI2, rfl, hstn⟩
  clear hst
  have hst := hstn
  clear hstn
  replace hM := hM.mono hI2
  replace hv := hv.mono hI2
  replace hle := hle.trans hI2
  refine ⟨_, rfl, ?_⟩
  refine RW.op1 rfl (runs_move rfl) ?_
  refine RW.op1 rfl (runs_extract rfl rfl) ?_
  refine RW.op1 rfl (runs_extract rfl rfl) ?_
  refine RW.op1 rfl (runs_assign rfl) ?_
  refine RW.op1 rfl (runs_assign rfl) ?_
  refine RW.done ?_
  refine AQ.next ?_
  refine CW.seq ?_
  -- region 2
  refine CW.region ?_
  refine RW.op1 rfl (runs_move rfl) ?_
  refine RW.call rfl call10 rfl rfl (list_spec hst hM (getH nm hs).1 (by omega)) ?_
  rintro e w ⟨I3, vl, hI3, rfl, hl, hstn⟩
  clear hst
  have hst := hstn
  clear hstn
  rw [hls] at hl
  replace hM := hM.mono hI3
  replace hv := hv.mono hI3
  replace hle := hle.trans hI3
  refine ⟨_, rfl, ?_⟩
  refine RW.op1 rfl (runs_assign rfl) ?_
  refine RW.done ?_
  refine AQ.next ?_
  refine CW.seq ?_
  -- region 3
  refine CW.region ?_
  refine RW.op1 rfl (runs_move rfl) ?_
  refine RW.op1 rfl (runs_move rfl) ?_
  refine RW.call rfl call40 rfl rfl (contains_spec hst hl (by omega) word) ?_
  rintro e w ⟨rfl, hstn⟩
  clear hst
  have hst := hstn
  clear hstn
  rw [h1]
  refine ⟨_, rfl, ?_⟩
  refine RW.op1 rfl (runs_move rfl) ?_
  refine RW.split (t := 24) rfl (fun hb24 => ?_) (fun hb24 => ?_)
  · have hb24p := hb24
    try simp only [decide_eq_true_eq, decide_eq_false_iff_not] at hb24p
    refine RW.off_guard rfl rfl rfl rfl hb24 ?_
    refine RW.off_guard rfl rfl rfl rfl hb24 ?_
    refine RW.off_guard rfl rfl rfl rfl hb24 ?_
    refine RW.off_undef rfl rfl rfl rfl ?_
    refine RW.off_undef rfl rfl rfl rfl ?_
    refine RW.off_guard rfl rfl rfl rfl hb24 ?_
    refine RW.op1 rfl (runs_pick_true rfl hb24 rfl) ?_
    refine RW.op1 rfl (runs_assign rfl) ?_
    refine RW.done ?_
    refine AQ.next ?_
    refine CW.ret ?_
    refine AQ.ret1 rfl rfl ?_
    refine ⟨_, hle, ?_, hst.drop1⟩
    rw [hin3]
    clear hin3 h1 h2 hls
    cases c1 <;> cases c2 <;> cases creds <;> simp_all
  · have hb24p := hb24
    try simp only [decide_eq_true_eq, decide_eq_false_iff_not] at hb24p
    refine RW.on_guard rfl rfl rfl rfl hb24 ?_
    refine RW.op1 rfl (runs_move rfl) ?_
    refine RW.on_guard rfl rfl rfl rfl hb24 ?_
    refine RW.op1 rfl (runs_not rfl) ?_
    refine RW.on_guard rfl rfl rfl rfl hb24 ?_
    refine RW.op1 rfl (runs_move rfl) ?_
    refine RW.split (t := 27) rfl (fun hb27 => ?_) (fun hb27 => ?_)
    · have hb27p := hb27
      try simp only [decide_eq_true_eq, decide_eq_false_iff_not] at hb27p
      refine RW.on_guard rfl rfl rfl rfl hb27 ?_
      refine RW.op1 rfl (runs_move rfl) ?_
      refine RW.on_guard rfl rfl rfl rfl hb27 ?_
      refine RW.call rfl call40 rfl rfl (contains_spec hst hl (by omega) ⟨#[42]⟩) ?_
      rintro e w ⟨rfl, hstn⟩
      clear hst
      have hst := hstn
      clear hstn
      rw [g1, h2]
      refine ⟨_, rfl, ?_⟩
      refine RW.on_guard rfl rfl rfl rfl hb24 ?_
      refine RW.op1 rfl (runs_pick_true rfl hb27 rfl) ?_
      refine RW.op1 rfl (runs_pick_false rfl hb24 rfl) ?_
      refine RW.op1 rfl (runs_assign rfl) ?_
      refine RW.done ?_
      refine AQ.next ?_
      refine CW.ret ?_
      refine AQ.ret1 rfl rfl ?_
      refine ⟨_, hle, ?_, hst.drop1⟩
      rw [hin3]
      clear hin3 h1 h2 hls
      cases c1 <;> cases c2 <;> cases creds <;> simp_all
    · have hb27p := hb27
      try simp only [decide_eq_true_eq, decide_eq_false_iff_not] at hb27p
      refine RW.off_guard rfl rfl rfl rfl hb27 ?_
      refine RW.off_guard rfl rfl rfl rfl hb27 ?_
      refine RW.on_guard rfl rfl rfl rfl hb24 ?_
      refine RW.op1 rfl (runs_pick_false rfl hb27 rfl) ?_
      refine RW.op1 rfl (runs_pick_false rfl hb24 rfl) ?_
      refine RW.op1 rfl (runs_assign rfl) ?_
      refine RW.done ?_
      refine AQ.next ?_
      refine CW.ret ?_
      refine AQ.ret1 rfl rfl ?_
      refine ⟨_, hle, ?_, hst.drop1⟩
      rw [hin3]
      clear hin3 h1 h2 hls
      cases c1 <;> cases c2 <;> cases creds <;> simp_all
set_option maxRecDepth 100000 in
set_option maxHeartbeats 1000000 in
theorem listed_spec {w0 w : World} {I : Imm} {L : Own} (hst : St w0 w I L) {vh : Value} {hs : List HRow} (hv : RdH I vh hs) (hok : HB hs) (code : Int) (body : ByteArray) (cut : Bool) (nm word : ByteArray) (hnm : nm.size ≤ 9223372036854775807) (creds : Bool) :
    Calls Tryd.prog 36 #[.agg #[.int .i64 code, vh, .string body, .bool cut], .string nm, .string word, .bool creds] w fun e w' => ∃ I', Imm.le I I' ∧ e = .returned (.bool (decide (AllowsR hs nm word.toList creds))) ∧ St w0 w' I' L := by
  obtain ⟨hA, hcap, rfl⟩ : ∃ A c, vh = .slice A hs.length c := by obtain ⟨_, _, A, c, e, _⟩ := hv; exact ⟨A, c, e⟩
  have hval := hok.val nm
  have hvz := size_toList (getH nm hs).1
  have hpl := parts_len (getH nm hs).1.toList
  obtain ⟨ls, hls⟩ : ∃ l, partsL (getH nm hs).1.toList = l := ⟨_, rfl⟩
  have hin : AllowsR hs nm word.toList creds ↔ inR ls word.toList creds := by unfold AllowsR; rw [hls]
  rw [hls] at hpl
  have g1 : (ByteArray.mk #[42]).toList = [42] := litL _
  refine enter Tryd.func36 rfl (N := 39) rfl rfl ?_
  simp only [List.zipIdx_cons, List.zipIdx_nil, List.map_cons, List.map_nil, Nat.zero_add, Nat.reduceAdd]
  have hle := Imm.le.refl I
  refine CW.seq ?_
  -- region 0
  refine CW.region ?_
  refine RW.opE rfl (runs_box rfl hst) ?_
  rintro _ w ⟨b1, rfl, hstn⟩
  clear hst
  have hst := hstn
  clear hstn
  refine RW.op1 rfl (runs_assign rfl) ?_
  refine RW.done ?_
  refine AQ.next ?_
  refine CW.seq ?_
  -- region 1
  refine CW.region ?_
  refine RW.op1 rfl (runs_move rfl) ?_
  first
    | refine RW.op1 rfl (runs_fieldAddr0 rfl Tryd.underlying40 rfl ti31 (by decide)) ?_
    | refine RW.op1 rfl (runs_fieldAddr rfl Tryd.underlying40 rfl ti31 (by decide)) ?_
  first
    | refine RW.op1 rfl (runs_load1 sc31 rfl (hst.cell_own (k := 0) rfl rfl)) ?_
    | refine RW.op1 rfl (runs_load1 sc31 rfl (hst.cell_own (k := 1) rfl rfl)) ?_
    | refine RW.op1 rfl (runs_load1 sc31 rfl (hst.cell_own (k := 2) rfl rfl)) ?_
  refine RW.call rfl call35 rfl rfl (refGet_spec hst nm hnm hv hok.names hok.1) ?_
  rintro e w ⟨I2, hI2, rfl, hstn⟩
  clear hst
  have hst := hstn
  clear hstn
  replace hv := hv.mono hI2
  replace hle := hle.trans hI2
  refine ⟨_, rfl, ?_⟩
  refine RW.op1 rfl (runs_move rfl) ?_
  refine RW.op1 rfl (runs_extract rfl rfl) ?_
  refine RW.op1 rfl (runs_extract rfl rfl) ?_
  refine RW.op1 rfl (runs_assign rfl) ?_
  refine RW.op1 rfl (runs_assign rfl) ?_
  refine RW.done ?_
  refine AQ.next ?_
  refine CW.seq ?_
  refine CW.seq ?_
  -- region 2
  refine CW.region ?_
  refine RW.op1 rfl (runs_move rfl) ?_
  refine RW.call rfl call38 rfl rfl (parts_spec hst (getH nm hs).1 (by omega)) ?_
  rintro e w ⟨I3, vl, hI3, rfl, hl, hstn⟩
  clear hst
  have hst := hstn
  clear hstn
  rw [hls] at hl
  replace hv := hv.mono hI3
  replace hle := hle.trans hI3
  refine ⟨_, rfl, ?_⟩
  refine RW.op1 rfl (RdL.len Tryd.underlying23 rfl hl) ?_
  rw [List.length_map]
  refine RW.op1 rfl (runs_move rfl) ?_
  refine RW.done ?_
  refine AQ.next ?_
  refine CW.block ?_
  -- loop 1
  refine CW.loop Nat (fun k w => St w0 w I3 ((b1, Obj.cells (Value.agg #[.int .i64 code, .slice hA hs.length hcap, .string body, .bool cut]).cells 40) :: L) ∧ k ≤ ls.length ∧ ∀ x ∈ ls.take k, ¬ (x = word.toList ∨ (x = [42] ∧ creds = false))) (fun k => [(2, .string word), (3, .bool creds), (21, vl), (22, .int .i64 (ls.length : Nat)), (23, .int .i64 (k : Int))]) (fun k => ls.length - k) ⟨0, ⟨hst, Nat.zero_le _, by simp⟩, ⟨rfl, rfl, rfl, rfl, rfl, trivial⟩⟩ ?_
  rintro k w ⟨hstn, hk, hall⟩
  clear hst
  have hst := hstn
  clear hstn
  refine CW.seq ?_
  -- region 3
  refine CW.region ?_
  refine RW.op1 rfl (runs_lss rfl rfl) ?_
  refine RW.done ?_
  refine AQ.next ?_
  refine CW.seq ?_
  refine CW.cond rfl (fun hc24 => ?_) (fun hc24 => ?_)
  · have hcb24 := hc24
    try simp only [decide_eq_true_eq, decide_eq_false_iff_not] at hc24
    have hk1 : k < ls.length := by omega
    obtain ⟨p, hr⟩ : ∃ r, ls[k] = r := ⟨_, rfl⟩
    have hst5 : sat (ls.map strOf) (k : Int) = strOf p := by rw [sat_get (by rw [List.length_map]; exact hk1), List.getElem_map, hr]
    refine CW.skip ?_
    refine AQ.next ?_
    refine CW.seq ?_
    refine CW.block ?_
    refine CW.seq ?_
    -- region 4
    refine CW.region ?_
    refine RW.op1 rfl (RdL.indexAddr Tryd.underlying23 ti9 (by decide) rfl rfl hl (by rw [List.length_map]; omega)) ?_
    refine RW.op1 rfl (runs_load1 sc9 rfl (hst.cell_imm (RdS.at hl (by omega) (by rw [List.length_map]; omega)))) ?_
    rw [hst5]
    refine RW.op1 rfl (runs_assign rfl) ?_
    refine RW.done ?_
    refine AQ.next ?_
    refine CW.seq ?_
    -- region 5
    refine CW.cut Unit (fun _ w => St w0 w I3 ((b1, Obj.cells (Value.agg #[.int .i64 code, .slice hA hs.length hcap, .string body, .bool cut]).cells 40) :: L)) (fun _ => [(2, .string word), (3, .bool creds), (21, vl), (22, .int .i64 (ls.length : Nat)), (23, .int .i64 (k : Int)), (37, .bool (decide (p = word.toList ∨ (p = [42] ∧ creds = false))))]) ?_ ?_
    · -- region 5
      refine CW.region ?_
      refine RW.op1 rfl (runs_move rfl) ?_
      refine RW.op1 rfl (runs_move rfl) ?_
      refine RW.op1 rfl (runs_eqS rfl rfl) ?_
      refine RW.op1 rfl (runs_move rfl) ?_
      refine RW.split (t := 30) rfl (fun hb30 => ?_) (fun hb30 => ?_)
      · have hb30p := hb30
        try simp only [decide_eq_true_eq, decide_eq_false_iff_not] at hb30p
        refine RW.off_guard rfl rfl rfl rfl hb30 ?_
        refine RW.off_guard rfl rfl rfl rfl hb30 ?_
        refine RW.off_guard rfl rfl rfl rfl hb30 ?_
        refine RW.off_undef rfl rfl rfl rfl ?_
        refine RW.off_undef rfl rfl rfl rfl ?_
        refine RW.off_guard rfl rfl rfl rfl hb30 ?_
        refine RW.op1 rfl (runs_pick_true rfl hb30 rfl) ?_
        refine RW.done ?_
        exact AQ.meet () hst ⟨rfl, rfl, rfl, rfl, rfl, boolN (by rw [strOf_toList] at *; generalize word.toList = W at *; clear hst hl hall; cases creds <;> simp_all), trivial⟩
      · have hb30p := hb30
        try simp only [decide_eq_true_eq, decide_eq_false_iff_not] at hb30p
        refine RW.on_guard rfl rfl rfl rfl hb30 ?_
        refine RW.op1 rfl (runs_move rfl) ?_
        refine RW.on_guard rfl rfl rfl rfl hb30 ?_
        refine RW.op1 rfl (runs_eqS rfl rfl) ?_
        refine RW.on_guard rfl rfl rfl rfl hb30 ?_
        refine RW.op1 rfl (runs_move rfl) ?_
        refine RW.split (t := 33) rfl (fun hb33 => ?_) (fun hb33 => ?_)
        · have hb33p := hb33
          try simp only [decide_eq_true_eq, decide_eq_false_iff_not] at hb33p
          refine RW.on_guard rfl rfl rfl rfl hb33 ?_
          refine RW.op1 rfl (runs_move rfl) ?_
          refine RW.on_guard rfl rfl rfl rfl hb33 ?_
          refine RW.op1 rfl (runs_not rfl) ?_
          refine RW.on_guard rfl rfl rfl rfl hb30 ?_
          refine RW.op1 rfl (runs_pick_true rfl hb33 rfl) ?_
          refine RW.op1 rfl (runs_pick_false rfl hb30 rfl) ?_
          refine RW.done ?_
          exact AQ.meet () hst ⟨rfl, rfl, rfl, rfl, rfl, boolN (by rw [strOf_toList] at *; generalize word.toList = W at *; clear hst hl hall; cases creds <;> simp_all), trivial⟩
        · have hb33p := hb33
          try simp only [decide_eq_true_eq, decide_eq_false_iff_not] at hb33p
          refine RW.off_guard rfl rfl rfl rfl hb33 ?_
          refine RW.off_guard rfl rfl rfl rfl hb33 ?_
          refine RW.on_guard rfl rfl rfl rfl hb30 ?_
          refine RW.op1 rfl (runs_pick_false rfl hb33 rfl) ?_
          refine RW.op1 rfl (runs_pick_false rfl hb30 rfl) ?_
          refine RW.done ?_
          exact AQ.meet () hst ⟨rfl, rfl, rfl, rfl, rfl, boolN (by rw [strOf_toList] at *; generalize word.toList = W at *; clear hst hl hall; cases creds <;> simp_all), trivial⟩
    · rintro _ w hstn
      clear hst
      have hst := hstn
      clear hstn
      refine AQ.next ?_
      refine CW.cond rfl (fun hc37 => ?_) (fun hc37 => ?_)
      · have hcb37 := hc37
        try simp only [decide_eq_true_eq, decide_eq_false_iff_not] at hc37
        have h37 : p = word.toList ∨ (p = [42] ∧ creds = false) := of_decide_eq_true hcb37
        refine CW.seq ?_
        -- region 6
        refine CW.region ?_
        refine RW.op1 rfl (runs_assign rfl) ?_
        refine RW.done ?_
        refine AQ.next ?_
        refine CW.ret ?_
        refine AQ.block_ret ?_
        refine AQ.past_ret ?_
        refine AQ.past_ret ?_
        refine AQ.block_ret ?_
        refine AQ.past_ret ?_
        refine AQ.ret1 rfl rfl ?_
        refine ⟨_, hle, ?_, hst.drop1⟩
        have hm : p ∈ ls := by rw [← hr]; exact List.getElem_mem _
        rw [decide_eq_true (hin.2 (by rcases h37 with h | ⟨h, h'⟩; exact .inl (h ▸ hm); exact .inr ⟨h', h ▸ hm⟩))]
      · have hcb37 := hc37
        try simp only [decide_eq_true_eq, decide_eq_false_iff_not] at hc37
        have h37 : ¬ (p = word.toList ∨ (p = [42] ∧ creds = false)) := of_decide_eq_false hcb37
        refine CW.skip ?_
        refine AQ.block_normal ?_
        refine AQ.next ?_
        -- region 7
        refine CW.region ?_
        refine RW.op1 rfl (runs_add rfl rfl (by omega)) ?_
        refine RW.op1 rfl (runs_move rfl) ?_
        refine RW.done ?_
        exact AQ.again (x := k) (k + 1) ⟨hst, by omega, takeE_more hall hk1 (by rw [hr]; exact h37)⟩ ⟨rfl, rfl, rfl, rfl, rfl, trivial⟩ (by omega)
  · have hcb24 := hc24
    try simp only [decide_eq_true_eq, decide_eq_false_iff_not] at hc24
    skip
    refine CW.exit ?_
    refine AQ.past_exit ?_
    refine AQ.past_exit ?_
    refine AQ.block_hit ?_
    refine AQ.next ?_
    refine CW.seq ?_
    -- region 8
    refine CW.region ?_
    refine RW.op1 rfl (runs_assign rfl) ?_
    refine RW.done ?_
    refine AQ.next ?_
    refine CW.ret ?_
    refine AQ.ret1 rfl rfl ?_
    refine ⟨_, hle, ?_, hst.drop1⟩
    rw [List.take_of_length_le (by omega)] at hall
    rw [decide_eq_false (fun h => by
      rcases hin.1 h with h | ⟨h1, h2⟩
      · exact hall _ h (.inl rfl)
      · exact hall _ h2 (.inr ⟨rfl, h1⟩))]
end Go.Proofs.YtfdgnjbbchkgpaaDoorX
