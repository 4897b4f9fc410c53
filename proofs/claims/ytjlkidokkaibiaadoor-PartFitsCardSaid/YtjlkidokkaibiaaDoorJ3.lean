/- Tags, spans: what these come to. -/
import Derived.Test.YtjlkidokkaibiaaDoorT
import Derived.Test.YtjlkidokkaibiaaDoorJ2
namespace Go.Proofs.YtjlkidokkaibiaaDoorX
set_option linter.unusedVariables false
set_option linter.unusedSimpArgs false
open Go Go.RowKit Go.Proofs

def etagS : ByteArray := ⟨#[101, 116, 97, 103]⟩
def bytesS : ByteArray := ⟨#[98, 121, 116, 101, 115, 32]⟩
def tagR (hs : List HRow) : ByteArray := if strongB (getH etagS hs).1.toList = true then (getH etagS hs).1 else ⟨#[]⟩
def restR (s : ByteArray) : ByteArray := if preS s bytesS = true then s.extract bytesS.size s.size else s
theorem restR_size (s : ByteArray) : (restR s).size ≤ s.size := by
  unfold restR
  split
  · rw [← size_toList, ← size_toList, extract_list, List.length_take, List.length_drop]; omega
  · exact Nat.le_refl _
set_option maxRecDepth 100000 in
set_option maxHeartbeats 1000000 in
theorem tag_spec {w0 w : World} {I : Imm} {L : Own} (hst : St w0 w I L) {v : Value} {hs : List HRow} (hv : RdH I v hs) (hok : ∀ r ∈ hs, r.1.size ≤ 9223372036854775807) (hsz : (getH etagS hs).1.size ≤ 9223372036854775807) (hlen : hs.length ≤ 1000000) :
    Calls Tryd.prog 7 #[v] w fun e w' => ∃ I', Imm.le I I' ∧ e = .returned (.string (tagR hs)) ∧ St w0 w' I' L := by
  refine enter Tryd.func7 rfl (N := 14) rfl rfl ?_
  simp only [List.zipIdx_cons, List.zipIdx_nil, List.map_cons, List.map_nil, Nat.zero_add, Nat.reduceAdd]
  have hle := Imm.le.refl I
  refine CW.seq ?_
  -- region 0
  refine CW.region ?_
  refine RW.op1 rfl (runs_assign rfl) ?_
  refine RW.done ?_
  refine AQ.next ?_
  refine CW.seq ?_
  -- region 1
  refine CW.region ?_
  refine RW.op1 rfl (runs_move rfl) ?_
  refine RW.call rfl call22 rfl rfl (get_spec hst etagS (by decide) hv hok hlen) ?_
  rintro e w ⟨I1, hI1, rfl, hstn⟩
  clear hst
  have hst := hstn
  clear hstn
  replace hle := hle.trans hI1
  refine ⟨_, rfl, ?_⟩
  refine RW.op1 rfl (runs_move rfl) ?_
  refine RW.op1 rfl (runs_extract rfl rfl) ?_
  refine RW.op1 rfl (runs_extract rfl rfl) ?_
  refine RW.op1 rfl (runs_assign rfl) ?_
  refine RW.op1 rfl (runs_assign rfl) ?_
  refine RW.done ?_
  refine AQ.next ?_
  refine CW.seq ?_
  refine CW.seq ?_
  -- region 2
  refine CW.region ?_
  refine RW.op1 rfl (runs_move rfl) ?_
  refine RW.call rfl call23 rfl rfl (strong_spec hst (getH etagS hs).1 hsz) ?_
  rintro e w ⟨rfl, hstn⟩
  clear hst
  have hst := hstn
  clear hstn
  refine ⟨_, rfl, ?_⟩
  refine RW.op1 rfl (runs_not rfl) ?_
  refine RW.done ?_
  refine AQ.next ?_
  refine CW.cond rfl (fun hc12 => ?_) (fun hc12 => ?_)
  · have hcb12 := hc12
    try simp only [decide_eq_true_eq, decide_eq_false_iff_not] at hc12
    refine CW.seq ?_
    -- region 3
    refine CW.region ?_
    refine RW.op1 rfl (runs_assign rfl) ?_
    refine RW.done ?_
    refine AQ.next ?_
    refine CW.ret ?_
    refine AQ.past_ret ?_
    refine AQ.ret1 rfl rfl ?_
    have h0 : tagR hs = ⟨#[]⟩ := if_neg (by simpa using hc12)
    rw [h0]
    exact ⟨_, hle, rfl, hst⟩
  · have hcb12 := hc12
    try simp only [decide_eq_true_eq, decide_eq_false_iff_not] at hc12
    refine CW.skip ?_
    refine AQ.next ?_
    refine CW.seq ?_
    -- region 4
    refine CW.region ?_
    refine RW.op1 rfl (runs_move rfl) ?_
    refine RW.op1 rfl (runs_assign rfl) ?_
    refine RW.done ?_
    refine AQ.next ?_
    refine CW.ret ?_
    refine AQ.ret1 rfl rfl ?_
    have h0 : tagR hs = (getH etagS hs).1 := if_pos (by simpa using hc12)
    rw [h0]
    exact ⟨_, hle, rfl, hst⟩
/-- A span's parts, as they are read. -/
structure SpanP where
  a : Bool
  b : Bool
  c : Bool
  d : Option Int
  e : Option Int
  f : Option Int
def spanP (s : ByteArray) : SpanP :=
  let x := cutL (restR s).toList 47
  let y := cutL x.1 45
  ⟨preS s bytesS, x.2.2, y.2.2, numberR y.1, numberR y.2.1, numberR x.2.1⟩
def SpanOk (p : SpanP) : Prop := p.a = true ∧ p.b = true ∧ p.c = true ∧ p.d.isSome = true ∧ p.e.isSome = true ∧ p.f.isSome = true ∧ p.d.getD 0 ≤ p.e.getD 0 ∧ p.e.getD 0 < p.f.getD 0
instance (p : SpanP) : Decidable (SpanOk p) := by unfold SpanOk; infer_instance
def spanR (s : ByteArray) : Int × Int × Int × Bool := if SpanOk (spanP s) then ((spanP s).d.getD 0, (spanP s).e.getD 0, (spanP s).f.getD 0, true) else (0, 0, 0, false)
theorem cutL_len (l : List UInt8) (c : UInt8) : (cutL l c).1.length ≤ l.length ∧ (cutL l c).2.1.length ≤ l.length := by
  unfold cutL
  split
  · exact ⟨by rw [List.length_take]; omega, by rw [List.length_drop]; omega⟩
  · exact ⟨Nat.le_refl _, Nat.zero_le _⟩
theorem strOfZ (l : List UInt8) : (strOf l).size = l.length := by rw [← size_toList, strOf_toList]
set_option maxRecDepth 100000 in
set_option maxHeartbeats 1000000 in
theorem span_spec {w0 w : World} {I : Imm} {L : Own} (hst : St w0 w I L) (s : ByteArray) (hs : s.size ≤ 9223372036854775807) :
    Calls Tryd.prog 8 #[.string s] w fun e w' => e = .returned (.tuple #[.int .i64 (spanR s).1, .int .i64 (spanR s).2.1, .int .i64 (spanR s).2.2.1, .bool (spanR s).2.2.2]) ∧ St w0 w' I L := by
  have hrs := restR_size s
  have hrl := size_toList (restR s)
  have hx := cutL_len (restR s).toList 47
  have hy := cutL_len (cutL (restR s).toList 47).1 45
  refine enter Tryd.func8 rfl (N := 79) rfl rfl ?_
  simp only [List.zipIdx_cons, List.zipIdx_nil, List.map_cons, List.map_nil, Nat.zero_add, Nat.reduceAdd]
  have hle := Imm.le.refl I
  refine CW.seq ?_
  -- region 0
  refine CW.region ?_
  refine RW.op1 rfl (runs_assign rfl) ?_
  refine RW.op1 rfl (runs_assign rfl) ?_
  refine RW.op1 rfl (runs_assign rfl) ?_
  refine RW.op1 rfl (runs_assign rfl) ?_
  refine RW.done ?_
  refine AQ.next ?_
  refine CW.seq ?_
  -- region 1
  refine CW.region ?_
  refine RW.op1 rfl (runs_move rfl) ?_
  refine RW.call rfl call24 rfl rfl (cutPrefix_spec hst s bytesS (by omega) (by decide)) ?_
  rintro e w ⟨rfl, hstn⟩
  clear hst
  have hst := hstn
  clear hstn
  rw [show (if preS s bytesS = true then s.extract bytesS.size s.size else s) = restR s from rfl]
  refine ⟨_, rfl, ?_⟩
  refine RW.op1 rfl (runs_move rfl) ?_
  refine RW.op1 rfl (runs_extract rfl rfl) ?_
  refine RW.op1 rfl (runs_extract rfl rfl) ?_
  refine RW.op1 rfl (runs_assign rfl) ?_
  refine RW.op1 rfl (runs_assign rfl) ?_
  refine RW.done ?_
  refine AQ.next ?_
  refine CW.seq ?_
  -- region 2
  refine CW.region ?_
  refine RW.op1 rfl (runs_move rfl) ?_
  refine RW.call rfl call25 rfl rfl (cut1_spec hst (restR s) 47 (by omega)) ?_
  rintro e w ⟨rfl, hstn⟩
  clear hst
  have hst := hstn
  clear hstn
  refine ⟨_, rfl, ?_⟩
  refine RW.op1 rfl (runs_move rfl) ?_
  refine RW.op1 rfl (runs_extract rfl rfl) ?_
  refine RW.op1 rfl (runs_extract rfl rfl) ?_
  refine RW.op1 rfl (runs_extract rfl rfl) ?_
  refine RW.op1 rfl (runs_assign rfl) ?_
  refine RW.op1 rfl (runs_assign rfl) ?_
  refine RW.op1 rfl (runs_assign rfl) ?_
  refine RW.done ?_
  refine AQ.next ?_
  refine CW.seq ?_
  -- region 3
  refine CW.region ?_
  refine RW.op1 rfl (runs_move rfl) ?_
  refine RW.call rfl call25 rfl rfl (cut1_spec hst (strOf (cutL (restR s).toList 47).1) 45 (by rw [strOfZ]; omega)) ?_
  rintro e w ⟨rfl, hstn⟩
  clear hst
  have hst := hstn
  clear hstn
  rw [strOf_toList]
  refine ⟨_, rfl, ?_⟩
  refine RW.op1 rfl (runs_move rfl) ?_
  refine RW.op1 rfl (runs_extract rfl rfl) ?_
  refine RW.op1 rfl (runs_extract rfl rfl) ?_
  refine RW.op1 rfl (runs_extract rfl rfl) ?_
  refine RW.op1 rfl (runs_assign rfl) ?_
  refine RW.op1 rfl (runs_assign rfl) ?_
  refine RW.op1 rfl (runs_assign rfl) ?_
  refine RW.done ?_
  refine AQ.next ?_
  refine CW.seq ?_
  -- region 4
  refine CW.region ?_
  refine RW.op1 rfl (runs_move rfl) ?_
  refine RW.call rfl call26 rfl rfl (number_spec hst (strOf (cutL (cutL (restR s).toList 47).1 45).1) (by rw [strOfZ]; omega)) ?_
  rintro e w ⟨rfl, hstn⟩
  clear hst
  have hst := hstn
  clear hstn
  rw [strOf_toList]
  refine ⟨_, rfl, ?_⟩
  refine RW.op1 rfl (runs_move rfl) ?_
  refine RW.op1 rfl (runs_extract rfl rfl) ?_
  refine RW.op1 rfl (runs_extract rfl rfl) ?_
  refine RW.op1 rfl (runs_assign rfl) ?_
  refine RW.op1 rfl (runs_assign rfl) ?_
  refine RW.done ?_
  refine AQ.next ?_
  refine CW.seq ?_
  -- region 5
  refine CW.region ?_
  refine RW.op1 rfl (runs_move rfl) ?_
  refine RW.call rfl call26 rfl rfl (number_spec hst (strOf (cutL (cutL (restR s).toList 47).1 45).2.1) (by rw [strOfZ]; omega)) ?_
  rintro e w ⟨rfl, hstn⟩
  clear hst
  have hst := hstn
  clear hstn
  rw [strOf_toList]
  refine ⟨_, rfl, ?_⟩
  refine RW.op1 rfl (runs_move rfl) ?_
  refine RW.op1 rfl (runs_extract rfl rfl) ?_
  refine RW.op1 rfl (runs_extract rfl rfl) ?_
  refine RW.op1 rfl (runs_assign rfl) ?_
  refine RW.op1 rfl (runs_assign rfl) ?_
  refine RW.done ?_
  refine AQ.next ?_
  refine CW.seq ?_
  -- region 6
  refine CW.region ?_
  refine RW.op1 rfl (runs_move rfl) ?_
  refine RW.call rfl call26 rfl rfl (number_spec hst (strOf (cutL (restR s).toList 47).2.1) (by rw [strOfZ]; omega)) ?_
  rintro e w ⟨rfl, hstn⟩
  clear hst
  have hst := hstn
  clear hstn
  rw [strOf_toList]
  refine ⟨_, rfl, ?_⟩
  refine RW.op1 rfl (runs_move rfl) ?_
  refine RW.op1 rfl (runs_extract rfl rfl) ?_
  refine RW.op1 rfl (runs_extract rfl rfl) ?_
  refine RW.op1 rfl (runs_assign rfl) ?_
  refine RW.op1 rfl (runs_assign rfl) ?_
  refine RW.done ?_
  refine AQ.next ?_
  refine CW.seq ?_
  refine CW.seq ?_
  -- region 7
  obtain ⟨p, hp⟩ : ∃ p, spanP s = p := ⟨_, rfl⟩
  have e1 : preS s bytesS = p.a := by rw [← hp]; rfl
  have e2 : (cutL (restR s).toList 47).2.2 = p.b := by rw [← hp]; rfl
  have e3 : (cutL (cutL (restR s).toList 47).1 45).2.2 = p.c := by rw [← hp]; rfl
  have e4 : numberR (cutL (cutL (restR s).toList 47).1 45).1 = p.d := by rw [← hp]; rfl
  have e5 : numberR (cutL (cutL (restR s).toList 47).1 45).2.1 = p.e := by rw [← hp]; rfl
  have e6 : numberR (cutL (restR s).toList 47).2.1 = p.f := by rw [← hp]; rfl
  rw [e1, e2, e3, e4, e5, e6]
  clear e1 e2 e3 e4 e5 e6
  refine CW.cut Unit (fun _ w => St w0 w I L) (fun _ => [(2, .int .i64 (p.d.getD 0)), (3, .int .i64 (p.e.getD 0)), (4, .int .i64 (p.f.getD 0)), (75, .bool (decide (¬ SpanOk p)))]) ?_ ?_
  · -- region 7
    refine CW.region ?_
    refine RW.op1 rfl (runs_move rfl) ?_
    refine RW.op1 rfl (runs_move rfl) ?_
    refine RW.split (t := 50) rfl (fun hb50 => ?_) (fun hb50 => ?_)
    · have hb50p := hb50
      try simp only [decide_eq_true_eq, decide_eq_false_iff_not] at hb50p
      refine RW.on_guard rfl rfl rfl rfl hb50 ?_
      refine RW.op1 rfl (runs_move rfl) ?_
      refine RW.op1 rfl (runs_pick_true rfl hb50 rfl) ?_
      refine RW.op1 rfl (runs_move rfl) ?_
      refine RW.split (t := 53) rfl (fun hb53 => ?_) (fun hb53 => ?_)
      · have hb53p := hb53
        try simp only [decide_eq_true_eq, decide_eq_false_iff_not] at hb53p
        refine RW.on_guard rfl rfl rfl rfl hb53 ?_
        refine RW.op1 rfl (runs_move rfl) ?_
        refine RW.op1 rfl (runs_pick_true rfl hb53 rfl) ?_
        refine RW.op1 rfl (runs_move rfl) ?_
        refine RW.split (t := 56) rfl (fun hb56 => ?_) (fun hb56 => ?_)
        · have hb56p := hb56
          try simp only [decide_eq_true_eq, decide_eq_false_iff_not] at hb56p
          refine RW.on_guard rfl rfl rfl rfl hb56 ?_
          refine RW.op1 rfl (runs_move rfl) ?_
          refine RW.op1 rfl (runs_pick_true rfl hb56 rfl) ?_
          refine RW.op1 rfl (runs_move rfl) ?_
          refine RW.split (t := 59) rfl (fun hb59 => ?_) (fun hb59 => ?_)
          · have hb59p := hb59
            try simp only [decide_eq_true_eq, decide_eq_false_iff_not] at hb59p
            refine RW.on_guard rfl rfl rfl rfl hb59 ?_
            refine RW.op1 rfl (runs_move rfl) ?_
            refine RW.op1 rfl (runs_pick_true rfl hb59 rfl) ?_
            refine RW.op1 rfl (runs_move rfl) ?_
            refine RW.split (t := 62) rfl (fun hb62 => ?_) (fun hb62 => ?_)
            · have hb62p := hb62
              try simp only [decide_eq_true_eq, decide_eq_false_iff_not] at hb62p
              refine RW.on_guard rfl rfl rfl rfl hb62 ?_
              refine RW.op1 rfl (runs_move rfl) ?_
              refine RW.op1 rfl (runs_pick_true rfl hb62 rfl) ?_
              refine RW.op1 rfl (runs_not rfl) ?_
              refine RW.op1 rfl (runs_move rfl) ?_
              refine RW.split (t := 66) rfl (fun hb66 => ?_) (fun hb66 => ?_)
              · have hb66p := hb66
                try simp only [decide_eq_true_eq, decide_eq_false_iff_not] at hb66p
                refine RW.off_guard rfl rfl rfl rfl hb66 ?_
                refine RW.off_guard rfl rfl rfl rfl hb66 ?_
                refine RW.off_guard rfl rfl rfl rfl hb66 ?_
                refine RW.op1 rfl (runs_pick_true rfl hb66 rfl) ?_
                refine RW.op1 rfl (runs_move rfl) ?_
                refine RW.off_guard rfl rfl rfl rfl rfl ?_
                refine RW.off_guard rfl rfl rfl rfl rfl ?_
                refine RW.off_guard rfl rfl rfl rfl rfl ?_
                refine RW.op1 rfl (runs_pick_true rfl rfl rfl) ?_
                refine RW.done ?_
                exact AQ.meet () hst ⟨rfl, rfl, rfl, boolN (by unfold SpanOk; simp_all <;> omega), trivial⟩
              · have hb66p := hb66
                try simp only [decide_eq_true_eq, decide_eq_false_iff_not] at hb66p
                refine RW.on_guard rfl rfl rfl rfl hb66 ?_
                refine RW.op1 rfl (runs_move rfl) ?_
                refine RW.on_guard rfl rfl rfl rfl hb66 ?_
                refine RW.op1 rfl (runs_move rfl) ?_
                refine RW.on_guard rfl rfl rfl rfl hb66 ?_
                refine RW.op1 rfl (runs_gtr rfl rfl) ?_
                refine RW.op1 rfl (runs_pick_false rfl hb66 rfl) ?_
                refine RW.op1 rfl (runs_move rfl) ?_
                refine RW.split (t := 71) rfl (fun hb71 => ?_) (fun hb71 => ?_)
                · have hb71p := hb71
                  try simp only [decide_eq_true_eq, decide_eq_false_iff_not] at hb71p
                  refine RW.off_guard rfl rfl rfl rfl hb71 ?_
                  refine RW.off_guard rfl rfl rfl rfl hb71 ?_
                  refine RW.off_guard rfl rfl rfl rfl hb71 ?_
                  refine RW.op1 rfl (runs_pick_true rfl hb71 rfl) ?_
                  refine RW.done ?_
                  exact AQ.meet () hst ⟨rfl, rfl, rfl, boolN (by unfold SpanOk; simp_all <;> omega), trivial⟩
                · have hb71p := hb71
                  try simp only [decide_eq_true_eq, decide_eq_false_iff_not] at hb71p
                  refine RW.on_guard rfl rfl rfl rfl hb71 ?_
                  refine RW.op1 rfl (runs_move rfl) ?_
                  refine RW.on_guard rfl rfl rfl rfl hb71 ?_
                  refine RW.op1 rfl (runs_move rfl) ?_
                  refine RW.on_guard rfl rfl rfl rfl hb71 ?_
                  refine RW.op1 rfl (runs_geq rfl rfl) ?_
                  refine RW.op1 rfl (runs_pick_false rfl hb71 rfl) ?_
                  refine RW.done ?_
                  exact AQ.meet () hst ⟨rfl, rfl, rfl, boolN (by unfold SpanOk; simp_all <;> omega), trivial⟩
            · have hb62p := hb62
              try simp only [decide_eq_true_eq, decide_eq_false_iff_not] at hb62p
              refine RW.off_guard rfl rfl rfl rfl hb62 ?_
              refine RW.op1 rfl (runs_pick_false rfl hb62 rfl) ?_
              refine RW.op1 rfl (runs_not rfl) ?_
              refine RW.op1 rfl (runs_move rfl) ?_
              refine RW.split (t := 66) rfl (fun hb66 => ?_) (fun hb66 => ?_)
              · have hb66p := hb66
                try simp only [decide_eq_true_eq, decide_eq_false_iff_not] at hb66p
                refine RW.off_guard rfl rfl rfl rfl hb66 ?_
                refine RW.off_guard rfl rfl rfl rfl hb66 ?_
                refine RW.off_guard rfl rfl rfl rfl hb66 ?_
                refine RW.op1 rfl (runs_pick_true rfl hb66 rfl) ?_
                refine RW.op1 rfl (runs_move rfl) ?_
                refine RW.off_guard rfl rfl rfl rfl rfl ?_
                refine RW.off_guard rfl rfl rfl rfl rfl ?_
                refine RW.off_guard rfl rfl rfl rfl rfl ?_
                refine RW.op1 rfl (runs_pick_true rfl rfl rfl) ?_
                refine RW.done ?_
                exact AQ.meet () hst ⟨rfl, rfl, rfl, boolN (by unfold SpanOk; simp_all <;> omega), trivial⟩
              · have hb66p := hb66
                try simp only [decide_eq_true_eq, decide_eq_false_iff_not] at hb66p
                refine RW.on_guard rfl rfl rfl rfl hb66 ?_
                refine RW.op1 rfl (runs_move rfl) ?_
                refine RW.on_guard rfl rfl rfl rfl hb66 ?_
                refine RW.op1 rfl (runs_move rfl) ?_
                refine RW.on_guard rfl rfl rfl rfl hb66 ?_
                refine RW.op1 rfl (runs_gtr rfl rfl) ?_
                refine RW.op1 rfl (runs_pick_false rfl hb66 rfl) ?_
                refine RW.op1 rfl (runs_move rfl) ?_
                refine RW.split (t := 71) rfl (fun hb71 => ?_) (fun hb71 => ?_)
                · have hb71p := hb71
                  try simp only [decide_eq_true_eq, decide_eq_false_iff_not] at hb71p
                  refine RW.off_guard rfl rfl rfl rfl hb71 ?_
                  refine RW.off_guard rfl rfl rfl rfl hb71 ?_
                  refine RW.off_guard rfl rfl rfl rfl hb71 ?_
                  refine RW.op1 rfl (runs_pick_true rfl hb71 rfl) ?_
                  refine RW.done ?_
                  exact AQ.meet () hst ⟨rfl, rfl, rfl, boolN (by unfold SpanOk; simp_all <;> omega), trivial⟩
                · have hb71p := hb71
                  try simp only [decide_eq_true_eq, decide_eq_false_iff_not] at hb71p
                  refine RW.on_guard rfl rfl rfl rfl hb71 ?_
                  refine RW.op1 rfl (runs_move rfl) ?_
                  refine RW.on_guard rfl rfl rfl rfl hb71 ?_
                  refine RW.op1 rfl (runs_move rfl) ?_
                  refine RW.on_guard rfl rfl rfl rfl hb71 ?_
                  refine RW.op1 rfl (runs_geq rfl rfl) ?_
                  refine RW.op1 rfl (runs_pick_false rfl hb71 rfl) ?_
                  refine RW.done ?_
                  exact AQ.meet () hst ⟨rfl, rfl, rfl, boolN (by unfold SpanOk; simp_all <;> omega), trivial⟩
          · have hb59p := hb59
            try simp only [decide_eq_true_eq, decide_eq_false_iff_not] at hb59p
            refine RW.off_guard rfl rfl rfl rfl hb59 ?_
            refine RW.op1 rfl (runs_pick_false rfl hb59 rfl) ?_
            refine RW.op1 rfl (runs_move rfl) ?_
            refine RW.off_guard rfl rfl rfl rfl rfl ?_
            refine RW.op1 rfl (runs_pick_false rfl rfl rfl) ?_
            refine RW.op1 rfl (runs_not rfl) ?_
            refine RW.op1 rfl (runs_move rfl) ?_
            refine RW.split (t := 66) rfl (fun hb66 => ?_) (fun hb66 => ?_)
            · have hb66p := hb66
              try simp only [decide_eq_true_eq, decide_eq_false_iff_not] at hb66p
              refine RW.off_guard rfl rfl rfl rfl hb66 ?_
              refine RW.off_guard rfl rfl rfl rfl hb66 ?_
              refine RW.off_guard rfl rfl rfl rfl hb66 ?_
              refine RW.op1 rfl (runs_pick_true rfl hb66 rfl) ?_
              refine RW.op1 rfl (runs_move rfl) ?_
              refine RW.off_guard rfl rfl rfl rfl rfl ?_
              refine RW.off_guard rfl rfl rfl rfl rfl ?_
              refine RW.off_guard rfl rfl rfl rfl rfl ?_
              refine RW.op1 rfl (runs_pick_true rfl rfl rfl) ?_
              refine RW.done ?_
              exact AQ.meet () hst ⟨rfl, rfl, rfl, boolN (by unfold SpanOk; simp_all <;> omega), trivial⟩
            · have hb66p := hb66
              try simp only [decide_eq_true_eq, decide_eq_false_iff_not] at hb66p
              refine RW.on_guard rfl rfl rfl rfl hb66 ?_
              refine RW.op1 rfl (runs_move rfl) ?_
              refine RW.on_guard rfl rfl rfl rfl hb66 ?_
              refine RW.op1 rfl (runs_move rfl) ?_
              refine RW.on_guard rfl rfl rfl rfl hb66 ?_
              refine RW.op1 rfl (runs_gtr rfl rfl) ?_
              refine RW.op1 rfl (runs_pick_false rfl hb66 rfl) ?_
              refine RW.op1 rfl (runs_move rfl) ?_
              refine RW.split (t := 71) rfl (fun hb71 => ?_) (fun hb71 => ?_)
              · have hb71p := hb71
                try simp only [decide_eq_true_eq, decide_eq_false_iff_not] at hb71p
                refine RW.off_guard rfl rfl rfl rfl hb71 ?_
                refine RW.off_guard rfl rfl rfl rfl hb71 ?_
                refine RW.off_guard rfl rfl rfl rfl hb71 ?_
                refine RW.op1 rfl (runs_pick_true rfl hb71 rfl) ?_
                refine RW.done ?_
                exact AQ.meet () hst ⟨rfl, rfl, rfl, boolN (by unfold SpanOk; simp_all <;> omega), trivial⟩
              · have hb71p := hb71
                try simp only [decide_eq_true_eq, decide_eq_false_iff_not] at hb71p
                refine RW.on_guard rfl rfl rfl rfl hb71 ?_
                refine RW.op1 rfl (runs_move rfl) ?_
                refine RW.on_guard rfl rfl rfl rfl hb71 ?_
                refine RW.op1 rfl (runs_move rfl) ?_
                refine RW.on_guard rfl rfl rfl rfl hb71 ?_
                refine RW.op1 rfl (runs_geq rfl rfl) ?_
                refine RW.op1 rfl (runs_pick_false rfl hb71 rfl) ?_
                refine RW.done ?_
                exact AQ.meet () hst ⟨rfl, rfl, rfl, boolN (by unfold SpanOk; simp_all <;> omega), trivial⟩
        · have hb56p := hb56
          try simp only [decide_eq_true_eq, decide_eq_false_iff_not] at hb56p
          refine RW.off_guard rfl rfl rfl rfl hb56 ?_
          refine RW.op1 rfl (runs_pick_false rfl hb56 rfl) ?_
          refine RW.op1 rfl (runs_move rfl) ?_
          refine RW.off_guard rfl rfl rfl rfl rfl ?_
          refine RW.op1 rfl (runs_pick_false rfl rfl rfl) ?_
          refine RW.op1 rfl (runs_move rfl) ?_
          refine RW.off_guard rfl rfl rfl rfl rfl ?_
          refine RW.op1 rfl (runs_pick_false rfl rfl rfl) ?_
          refine RW.op1 rfl (runs_not rfl) ?_
          refine RW.op1 rfl (runs_move rfl) ?_
          refine RW.split (t := 66) rfl (fun hb66 => ?_) (fun hb66 => ?_)
          · have hb66p := hb66
            try simp only [decide_eq_true_eq, decide_eq_false_iff_not] at hb66p
            refine RW.off_guard rfl rfl rfl rfl hb66 ?_
            refine RW.off_guard rfl rfl rfl rfl hb66 ?_
            refine RW.off_guard rfl rfl rfl rfl hb66 ?_
            refine RW.op1 rfl (runs_pick_true rfl hb66 rfl) ?_
            refine RW.op1 rfl (runs_move rfl) ?_
            refine RW.off_guard rfl rfl rfl rfl rfl ?_
            refine RW.off_guard rfl rfl rfl rfl rfl ?_
            refine RW.off_guard rfl rfl rfl rfl rfl ?_
            refine RW.op1 rfl (runs_pick_true rfl rfl rfl) ?_
            refine RW.done ?_
            exact AQ.meet () hst ⟨rfl, rfl, rfl, boolN (by unfold SpanOk; simp_all <;> omega), trivial⟩
          · have hb66p := hb66
            try simp only [decide_eq_true_eq, decide_eq_false_iff_not] at hb66p
            refine RW.on_guard rfl rfl rfl rfl hb66 ?_
            refine RW.op1 rfl (runs_move rfl) ?_
            refine RW.on_guard rfl rfl rfl rfl hb66 ?_
            refine RW.op1 rfl (runs_move rfl) ?_
            refine RW.on_guard rfl rfl rfl rfl hb66 ?_
            refine RW.op1 rfl (runs_gtr rfl rfl) ?_
            refine RW.op1 rfl (runs_pick_false rfl hb66 rfl) ?_
            refine RW.op1 rfl (runs_move rfl) ?_
            refine RW.split (t := 71) rfl (fun hb71 => ?_) (fun hb71 => ?_)
            · have hb71p := hb71
              try simp only [decide_eq_true_eq, decide_eq_false_iff_not] at hb71p
              refine RW.off_guard rfl rfl rfl rfl hb71 ?_
              refine RW.off_guard rfl rfl rfl rfl hb71 ?_
              refine RW.off_guard rfl rfl rfl rfl hb71 ?_
              refine RW.op1 rfl (runs_pick_true rfl hb71 rfl) ?_
              refine RW.done ?_
              exact AQ.meet () hst ⟨rfl, rfl, rfl, boolN (by unfold SpanOk; simp_all <;> omega), trivial⟩
            · have hb71p := hb71
              try simp only [decide_eq_true_eq, decide_eq_false_iff_not] at hb71p
              refine RW.on_guard rfl rfl rfl rfl hb71 ?_
              refine RW.op1 rfl (runs_move rfl) ?_
              refine RW.on_guard rfl rfl rfl rfl hb71 ?_
              refine RW.op1 rfl (runs_move rfl) ?_
              refine RW.on_guard rfl rfl rfl rfl hb71 ?_
              refine RW.op1 rfl (runs_geq rfl rfl) ?_
              refine RW.op1 rfl (runs_pick_false rfl hb71 rfl) ?_
              refine RW.done ?_
              exact AQ.meet () hst ⟨rfl, rfl, rfl, boolN (by unfold SpanOk; simp_all <;> omega), trivial⟩
      · have hb53p := hb53
        try simp only [decide_eq_true_eq, decide_eq_false_iff_not] at hb53p
        refine RW.off_guard rfl rfl rfl rfl hb53 ?_
        refine RW.op1 rfl (runs_pick_false rfl hb53 rfl) ?_
        refine RW.op1 rfl (runs_move rfl) ?_
        refine RW.off_guard rfl rfl rfl rfl rfl ?_
        refine RW.op1 rfl (runs_pick_false rfl rfl rfl) ?_
        refine RW.op1 rfl (runs_move rfl) ?_
        refine RW.off_guard rfl rfl rfl rfl rfl ?_
        refine RW.op1 rfl (runs_pick_false rfl rfl rfl) ?_
        refine RW.op1 rfl (runs_move rfl) ?_
        refine RW.off_guard rfl rfl rfl rfl rfl ?_
        refine RW.op1 rfl (runs_pick_false rfl rfl rfl) ?_
        refine RW.op1 rfl (runs_not rfl) ?_
        refine RW.op1 rfl (runs_move rfl) ?_
        refine RW.split (t := 66) rfl (fun hb66 => ?_) (fun hb66 => ?_)
        · have hb66p := hb66
          try simp only [decide_eq_true_eq, decide_eq_false_iff_not] at hb66p
          refine RW.off_guard rfl rfl rfl rfl hb66 ?_
          refine RW.off_guard rfl rfl rfl rfl hb66 ?_
          refine RW.off_guard rfl rfl rfl rfl hb66 ?_
          refine RW.op1 rfl (runs_pick_true rfl hb66 rfl) ?_
          refine RW.op1 rfl (runs_move rfl) ?_
          refine RW.off_guard rfl rfl rfl rfl rfl ?_
          refine RW.off_guard rfl rfl rfl rfl rfl ?_
          refine RW.off_guard rfl rfl rfl rfl rfl ?_
          refine RW.op1 rfl (runs_pick_true rfl rfl rfl) ?_
          refine RW.done ?_
          exact AQ.meet () hst ⟨rfl, rfl, rfl, boolN (by unfold SpanOk; simp_all <;> omega), trivial⟩
        · have hb66p := hb66
          try simp only [decide_eq_true_eq, decide_eq_false_iff_not] at hb66p
          refine RW.on_guard rfl rfl rfl rfl hb66 ?_
          refine RW.op1 rfl (runs_move rfl) ?_
          refine RW.on_guard rfl rfl rfl rfl hb66 ?_
          refine RW.op1 rfl (runs_move rfl) ?_
          refine RW.on_guard rfl rfl rfl rfl hb66 ?_
          refine RW.op1 rfl (runs_gtr rfl rfl) ?_
          refine RW.op1 rfl (runs_pick_false rfl hb66 rfl) ?_
          refine RW.op1 rfl (runs_move rfl) ?_
          refine RW.split (t := 71) rfl (fun hb71 => ?_) (fun hb71 => ?_)
          · have hb71p := hb71
            try simp only [decide_eq_true_eq, decide_eq_false_iff_not] at hb71p
            refine RW.off_guard rfl rfl rfl rfl hb71 ?_
            refine RW.off_guard rfl rfl rfl rfl hb71 ?_
            refine RW.off_guard rfl rfl rfl rfl hb71 ?_
            refine RW.op1 rfl (runs_pick_true rfl hb71 rfl) ?_
            refine RW.done ?_
            exact AQ.meet () hst ⟨rfl, rfl, rfl, boolN (by unfold SpanOk; simp_all <;> omega), trivial⟩
          · have hb71p := hb71
            try simp only [decide_eq_true_eq, decide_eq_false_iff_not] at hb71p
            refine RW.on_guard rfl rfl rfl rfl hb71 ?_
            refine RW.op1 rfl (runs_move rfl) ?_
            refine RW.on_guard rfl rfl rfl rfl hb71 ?_
            refine RW.op1 rfl (runs_move rfl) ?_
            refine RW.on_guard rfl rfl rfl rfl hb71 ?_
            refine RW.op1 rfl (runs_geq rfl rfl) ?_
            refine RW.op1 rfl (runs_pick_false rfl hb71 rfl) ?_
            refine RW.done ?_
            exact AQ.meet () hst ⟨rfl, rfl, rfl, boolN (by unfold SpanOk; simp_all <;> omega), trivial⟩
    · have hb50p := hb50
      try simp only [decide_eq_true_eq, decide_eq_false_iff_not] at hb50p
      refine RW.off_guard rfl rfl rfl rfl hb50 ?_
      refine RW.op1 rfl (runs_pick_false rfl hb50 rfl) ?_
      refine RW.op1 rfl (runs_move rfl) ?_
      refine RW.off_guard rfl rfl rfl rfl rfl ?_
      refine RW.op1 rfl (runs_pick_false rfl rfl rfl) ?_
      refine RW.op1 rfl (runs_move rfl) ?_
      refine RW.off_guard rfl rfl rfl rfl rfl ?_
      refine RW.op1 rfl (runs_pick_false rfl rfl rfl) ?_
      refine RW.op1 rfl (runs_move rfl) ?_
      refine RW.off_guard rfl rfl rfl rfl rfl ?_
      refine RW.op1 rfl (runs_pick_false rfl rfl rfl) ?_
      refine RW.op1 rfl (runs_move rfl) ?_
      refine RW.off_guard rfl rfl rfl rfl rfl ?_
      refine RW.op1 rfl (runs_pick_false rfl rfl rfl) ?_
      refine RW.op1 rfl (runs_not rfl) ?_
      refine RW.op1 rfl (runs_move rfl) ?_
      refine RW.split (t := 66) rfl (fun hb66 => ?_) (fun hb66 => ?_)
      · have hb66p := hb66
        try simp only [decide_eq_true_eq, decide_eq_false_iff_not] at hb66p
        refine RW.off_guard rfl rfl rfl rfl hb66 ?_
        refine RW.off_guard rfl rfl rfl rfl hb66 ?_
        refine RW.off_guard rfl rfl rfl rfl hb66 ?_
        refine RW.op1 rfl (runs_pick_true rfl hb66 rfl) ?_
        refine RW.op1 rfl (runs_move rfl) ?_
        refine RW.off_guard rfl rfl rfl rfl rfl ?_
        refine RW.off_guard rfl rfl rfl rfl rfl ?_
        refine RW.off_guard rfl rfl rfl rfl rfl ?_
        refine RW.op1 rfl (runs_pick_true rfl rfl rfl) ?_
        refine RW.done ?_
        exact AQ.meet () hst ⟨rfl, rfl, rfl, boolN (by unfold SpanOk; simp_all <;> omega), trivial⟩
      · have hb66p := hb66
        try simp only [decide_eq_true_eq, decide_eq_false_iff_not] at hb66p
        refine RW.on_guard rfl rfl rfl rfl hb66 ?_
        refine RW.op1 rfl (runs_move rfl) ?_
        refine RW.on_guard rfl rfl rfl rfl hb66 ?_
        refine RW.op1 rfl (runs_move rfl) ?_
        refine RW.on_guard rfl rfl rfl rfl hb66 ?_
        refine RW.op1 rfl (runs_gtr rfl rfl) ?_
        refine RW.op1 rfl (runs_pick_false rfl hb66 rfl) ?_
        refine RW.op1 rfl (runs_move rfl) ?_
        refine RW.split (t := 71) rfl (fun hb71 => ?_) (fun hb71 => ?_)
        · have hb71p := hb71
          try simp only [decide_eq_true_eq, decide_eq_false_iff_not] at hb71p
          refine RW.off_guard rfl rfl rfl rfl hb71 ?_
          refine RW.off_guard rfl rfl rfl rfl hb71 ?_
          refine RW.off_guard rfl rfl rfl rfl hb71 ?_
          refine RW.op1 rfl (runs_pick_true rfl hb71 rfl) ?_
          refine RW.done ?_
          exact AQ.meet () hst ⟨rfl, rfl, rfl, boolN (by unfold SpanOk; simp_all <;> omega), trivial⟩
        · have hb71p := hb71
          try simp only [decide_eq_true_eq, decide_eq_false_iff_not] at hb71p
          refine RW.on_guard rfl rfl rfl rfl hb71 ?_
          refine RW.op1 rfl (runs_move rfl) ?_
          refine RW.on_guard rfl rfl rfl rfl hb71 ?_
          refine RW.op1 rfl (runs_move rfl) ?_
          refine RW.on_guard rfl rfl rfl rfl hb71 ?_
          refine RW.op1 rfl (runs_geq rfl rfl) ?_
          refine RW.op1 rfl (runs_pick_false rfl hb71 rfl) ?_
          refine RW.done ?_
          exact AQ.meet () hst ⟨rfl, rfl, rfl, boolN (by unfold SpanOk; simp_all <;> omega), trivial⟩
  · rintro _ w hstn
    clear hst
    have hst := hstn
    clear hstn
    refine AQ.next ?_
    refine CW.cond rfl (fun hc75 => ?_) (fun hc75 => ?_)
    · have hcb75 := hc75
      try simp only [decide_eq_true_eq, decide_eq_false_iff_not] at hc75
      refine CW.seq ?_
      -- region 8
      refine CW.region ?_
      refine RW.op1 rfl (runs_assign rfl) ?_
      refine RW.op1 rfl (runs_assign rfl) ?_
      refine RW.op1 rfl (runs_assign rfl) ?_
      refine RW.op1 rfl (runs_assign rfl) ?_
      refine RW.done ?_
      refine AQ.next ?_
      refine CW.ret ?_
      refine AQ.past_ret ?_
      refine AQ.retL (rs := [.tmp 2, .tmp 3, .tmp 4, .tmp 5]) (vs := [_, _, _, _]) rfl ⟨rfl, rfl, rfl, rfl, trivial⟩ (by simp) ?_
      have h0 : spanR s = (0, 0, 0, false) := by unfold spanR; rw [hp]; exact if_neg (by simpa using hc75)
      rw [h0]
      exact ⟨rfl, hst⟩
    · have hcb75 := hc75
      try simp only [decide_eq_true_eq, decide_eq_false_iff_not] at hc75
      refine CW.skip ?_
      refine AQ.next ?_
      refine CW.seq ?_
      -- region 9
      refine CW.region ?_
      refine RW.op1 rfl (runs_move rfl) ?_
      refine RW.op1 rfl (runs_move rfl) ?_
      refine RW.op1 rfl (runs_move rfl) ?_
      refine RW.op1 rfl (runs_assign rfl) ?_
      refine RW.op1 rfl (runs_assign rfl) ?_
      refine RW.op1 rfl (runs_assign rfl) ?_
      refine RW.op1 rfl (runs_assign rfl) ?_
      refine RW.done ?_
      refine AQ.next ?_
      refine CW.ret ?_
      refine AQ.retL (rs := [.tmp 2, .tmp 3, .tmp 4, .tmp 5]) (vs := [_, _, _, _]) rfl ⟨rfl, rfl, rfl, rfl, trivial⟩ (by simp) ?_
      have h0 : spanR s = (p.d.getD 0, p.e.getD 0, p.f.getD 0, true) := by unfold spanR; rw [hp]; exact if_pos (by simpa using hc75)
      rw [h0]
      exact ⟨rfl, hst⟩
end Go.Proofs.YtjlkidokkaibiaaDoorX
