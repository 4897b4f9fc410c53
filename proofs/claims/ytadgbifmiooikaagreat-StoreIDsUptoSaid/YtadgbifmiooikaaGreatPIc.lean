/- Parts of a proof, joined: walks through the program's functions and their laws, in the order in which they need each other. -/
import Derived.Test.YtadgbifmiooikaaGreatPIb
import Derived.Laws.IdiomStrings
import Derived.Lib.OthersKept
import Derived.Lib.MapLaws
import Derived.Laws.Runes
import Derived.Laws.StandIn
import Derived.Lib.Bytealg
import Derived.Lib.QuoteLoop
import Derived.Lib.TrimUEq
import Derived.Test.YtadgbifmiooikaaGreatSH
import Derived.Test.YtadgbifmiooikaaGreatSI
namespace Go.Proofs.YtadgbifmiooikaaGreatX
set_option linter.unusedVariables false
set_option linter.unusedSimpArgs false
open Go Go.RowKit Go.Proofs
set_option maxRecDepth 100000 in
set_option maxHeartbeats 1000000 in
theorem clone_spec {w0 w : World} {I : Imm} {L : Own} (hst : St w0 w I L) {v : Value} {bs : List UInt8} (hv : RdB I v bs) (hb : bs.length ≤ 140737488355328) :
    Calls Tryz.prog 70 #[v] w fun e w' => ∃ I' v', Imm.le I I' ∧ e = .returned v' ∧ St w0 w' I' L ∧ RdB I' v' (bs) := by
  have hv0 := hv; obtain ⟨h1, h2, A, cap, rfl, h3, h4⟩ := hv0; refine enter Tryz.func70 rfl (N := 8) rfl rfl ?_
  simp only [List.zipIdx_cons, List.zipIdx_nil, List.map_cons, List.map_nil, Nat.zero_add, Nat.reduceAdd]
  have hle := Imm.le.refl I; refine CW.seq ?_; refine CW.region ?_; refine RW.op1 rfl (runs_assign rfl) ?_; refine RW.done ?_; refine AQ.next ?_; refine CW.seq ?_; refine CW.seq ?_; refine CW.region ?_; refine RW.op1 rfl (runs_move rfl) ?_; refine RW.op1 rfl (runs_eq_nilslice Tryz.underlying52 rfl) ?_; refine RW.done ?_; refine AQ.next ?_; refine CW.cond rfl (fun hc4 => ?_) (fun hc4 => ?_)
  · have hcb4 := hc4; try simp only [decide_eq_true_eq, decide_eq_false_iff_not] at hc4
    refine CW.seq ?_; refine CW.region ?_; refine RW.op1 rfl (runs_assign rfl) ?_; refine RW.done ?_; refine AQ.next ?_; refine CW.ret ?_; refine AQ.past_ret ?_; refine AQ.ret1 rfl rfl ?_
    exact ⟨_, _, Imm.le.refl _, rfl, hst, by
      have : A = none := by simpa using hcb4
      subst this
      have h0 : bs = [] := by
        cases bs with
        | nil => rfl
        | cons c r => obtain ⟨a, h, _⟩ := h4 0 (b8 c) (by simp); cases h
      subst h0
      exact RdL.nil 1⟩
  · have hcb4 := hc4; try simp only [decide_eq_true_eq, decide_eq_false_iff_not] at hc4
    refine CW.skip ?_; refine AQ.next ?_; refine CW.seq ?_; refine CW.region ?_; refine RW.opE rfl (runs_litB0 Tryz.underlying52 ti5 hst) ?_; rintro u1 w ⟨Lv1, hstn, hg1⟩; clear hst; have hst := hstn; clear hstn; refine RW.op1 rfl (runs_move rfl) ?_; refine RW.opE rfl (runs_appendB Tryz.underlying52 ti5 rfl rfl hst (by assumption) (by assumption) (by (try simp) <;> omega)) ?_; rintro u2 w ⟨Lv2, hstn, hg2⟩; clear hst; have hst := hstn; clear hstn; refine RW.op1 rfl (runs_assign rfl) ?_; refine RW.done ?_; refine AQ.next ?_; refine CW.ret ?_; refine AQ.ret1 rfl rfl ?_; obtain ⟨I', hI, hst, hr⟩ := GrowB.freeze hg2 hst; exact ⟨I', _, hI, rfl, hst, hr⟩
set_option maxRecDepth 100000 in
set_option maxHeartbeats 1000000 in
theorem within_spec {w0 w : World} {I : Imm} {L : Own} (hst : St w0 w I L) {v n : Int} (hv : i64ok v) (hn : i64ok n) :
    Calls Tryz.prog 12 #[.int .i64 v, .int .i64 n] w fun e w' => e = .returned (.int .i64 (within v n)) ∧ St w0 w' I L := by
  unfold i64ok at hv hn; refine enter Tryz.func12 rfl (N := 17) rfl rfl ?_
  simp only [List.zipIdx_cons, List.zipIdx_nil, List.map_cons, List.map_nil, Nat.zero_add, Nat.reduceAdd]
  have hle := Imm.le.refl I; refine CW.seq ?_; refine CW.region ?_; refine RW.op1 rfl (runs_assign rfl) ?_; refine RW.done ?_; refine AQ.next ?_; refine CW.seq ?_; refine CW.seq ?_; refine CW.region ?_; refine RW.op1 rfl (runs_move rfl) ?_; refine RW.op1 rfl (runs_lss rfl rfl) ?_; refine RW.done ?_; refine AQ.next ?_; refine CW.cond rfl (fun hc7 => ?_) (fun hc7 => ?_)
  · have hcb7 := hc7; try simp only [decide_eq_true_eq, decide_eq_false_iff_not] at hc7
    skip
    refine CW.seq ?_; refine CW.region ?_; refine RW.op1 rfl (runs_assign rfl) ?_; refine RW.done ?_; refine AQ.next ?_; refine CW.ret ?_; refine AQ.past_ret ?_; refine AQ.ret1 rfl rfl ?_; exact ⟨by unfold within; rw [if_pos hc7], hst⟩
  · have hcb7 := hc7; try simp only [decide_eq_true_eq, decide_eq_false_iff_not] at hc7
    have ht := tmod_bound v n hc7; refine CW.skip ?_; refine AQ.next ?_; refine CW.seq ?_; refine CW.region ?_; refine RW.op1 rfl (runs_move rfl) ?_; refine RW.op1 rfl (runs_move rfl) ?_; refine RW.op1 rfl (runs_rem rfl rfl (by omega)) ?_; refine RW.op1 rfl (runs_assign rfl) ?_; refine RW.done ?_; refine AQ.next ?_; refine CW.seq ?_; refine CW.seq ?_; refine CW.region ?_; refine RW.op1 rfl (runs_move rfl) ?_; refine RW.op1 rfl (runs_lss rfl rfl) ?_; refine RW.done ?_; refine AQ.next ?_; refine CW.cond rfl (fun hc12 => ?_) (fun hc12 => ?_)
    · have hcb12 := hc12; try simp only [decide_eq_true_eq, decide_eq_false_iff_not] at hc12
      refine CW.region ?_; refine RW.op1 rfl (runs_move rfl) ?_; refine RW.op1 rfl (runs_move rfl) ?_; refine RW.op1 rfl (runs_add rfl rfl (by omega)) ?_; refine RW.op1 rfl (runs_assign rfl) ?_; refine RW.done ?_; refine AQ.next ?_; refine CW.seq ?_; refine CW.region ?_; refine RW.op1 rfl (runs_move rfl) ?_; refine RW.op1 rfl (runs_assign rfl) ?_; refine RW.done ?_; refine AQ.next ?_; refine CW.ret ?_; refine AQ.ret1 rfl rfl ?_; exact ⟨by rw [within_of_tmod_neg hc7 hc12], hst⟩
    · have hcb12 := hc12; try simp only [decide_eq_true_eq, decide_eq_false_iff_not] at hc12
      refine CW.skip ?_; refine AQ.next ?_; refine CW.seq ?_; refine CW.region ?_; refine RW.op1 rfl (runs_move rfl) ?_; refine RW.op1 rfl (runs_assign rfl) ?_; refine RW.done ?_; refine AQ.next ?_; refine CW.ret ?_; refine AQ.ret1 rfl rfl ?_; exact ⟨by rw [within_of_tmod hc7 hc12], hst⟩
set_option maxRecDepth 100000 in
set_option maxHeartbeats 1000000 in
theorem may_spec {w0 w : World} {I : Imm} {L : Own} (hst : St w0 w I L) (e s : Int) :
    Calls Tryz.prog 108 #[.agg #[.int .i64 e, .int .i64 s]] w fun r w' => r = .returned (.bool (mayM e s)) ∧ St w0 w' I L := by
  refine enter Tryz.func108 rfl (N := 21) rfl rfl ?_
  simp only [List.zipIdx_cons, List.zipIdx_nil, List.map_cons, List.map_nil, Nat.zero_add, Nat.reduceAdd]
  have hle := Imm.le.refl I; refine CW.seq ?_; refine CW.region ?_; refine RW.opE rfl (runs_box rfl hst) ?_; rintro _ w ⟨b1, rfl, hstn⟩; clear hst; have hst := hstn; clear hstn; refine RW.op1 rfl (runs_assign rfl) ?_; refine RW.done ?_; refine AQ.next ?_; refine CW.seq ?_; refine CW.region ?_
  refine RW.op1 rfl (runs_fieldAddr0 rfl Tryz.underlying124 rfl ti3 (by decide)) ?_
  refine RW.op1 rfl (runs_load1 sc3 rfl (hst.cell_own (k := 0) rfl rfl)) ?_
  refine RW.op1 rfl (runs_geq rfl rfl) ?_; refine RW.op1 rfl (runs_move rfl) ?_; refine RW.split (t := 6) rfl (fun hb6 => ?_) (fun hb6 => ?_)
  · have hb6p := hb6; try simp only [decide_eq_true_eq, decide_eq_false_iff_not] at hb6p
    refine RW.on_guard rfl rfl rfl rfl hb6 ?_
    refine RW.op1 rfl (runs_fieldAddr0 rfl Tryz.underlying124 rfl ti3 (by decide)) ?_
    refine RW.on_guard rfl rfl rfl rfl hb6 ?_
    refine RW.op1 rfl (runs_load1 sc3 rfl (hst.cell_own (k := 0) rfl rfl)) ?_
    refine RW.on_guard rfl rfl rfl rfl hb6 ?_; refine RW.op1 rfl (runs_lss rfl rfl) ?_; refine RW.op1 rfl (runs_pick_true rfl hb6 rfl) ?_; refine RW.op1 rfl (runs_move rfl) ?_; refine RW.split (t := 11) rfl (fun hb11 => ?_) (fun hb11 => ?_)
    · have hb11p := hb11; try simp only [decide_eq_true_eq, decide_eq_false_iff_not] at hb11p
      refine RW.on_guard rfl rfl rfl rfl hb11 ?_
      refine RW.op1 rfl (runs_fieldAddr0 rfl Tryz.underlying124 rfl ti3 (by decide)) ?_
      refine RW.on_guard rfl rfl rfl rfl hb11 ?_
      refine RW.op1 rfl (runs_load1 sc3 rfl (hst.cell_own (k := 0) rfl rfl)) ?_
      refine RW.on_guard rfl rfl rfl rfl hb11 ?_; refine RW.op1 rfl (runs_geq rfl rfl) ?_; refine RW.op1 rfl (runs_pick_true rfl hb11 rfl) ?_; refine RW.op1 rfl (runs_move rfl) ?_; refine RW.split (t := 16) rfl (fun hb16 => ?_) (fun hb16 => ?_)
      · have hb16p := hb16; try simp only [decide_eq_true_eq, decide_eq_false_iff_not] at hb16p
        refine RW.on_guard rfl rfl rfl rfl hb16 ?_
        refine RW.op1 rfl (runs_fieldAddr0 rfl Tryz.underlying124 rfl ti3 (by decide)) ?_
        refine RW.on_guard rfl rfl rfl rfl hb16 ?_
        refine RW.op1 rfl (runs_load1 sc3 rfl (hst.cell_own (k := 0) rfl rfl)) ?_
        refine RW.on_guard rfl rfl rfl rfl hb16 ?_; refine RW.op1 rfl (runs_lss rfl rfl) ?_; refine RW.op1 rfl (runs_pick_true rfl hb16 rfl) ?_; refine RW.op1 rfl (runs_assign rfl) ?_; refine RW.done ?_; refine AQ.next ?_; refine CW.ret ?_; refine AQ.ret1 rfl rfl ?_; exact ⟨by unfold mayM; simp_all <;> omega, hst.drop1⟩
      · have hb16p := hb16; try simp only [decide_eq_true_eq, decide_eq_false_iff_not] at hb16p
        refine RW.off_guard rfl rfl rfl rfl hb16 ?_; refine RW.off_guard rfl rfl rfl rfl hb16 ?_; refine RW.off_guard rfl rfl rfl rfl hb16 ?_; refine RW.op1 rfl (runs_pick_false rfl hb16 rfl) ?_; refine RW.op1 rfl (runs_assign rfl) ?_; refine RW.done ?_; refine AQ.next ?_; refine CW.ret ?_; refine AQ.ret1 rfl rfl ?_; exact ⟨by unfold mayM; simp_all <;> omega, hst.drop1⟩
    · have hb11p := hb11; try simp only [decide_eq_true_eq, decide_eq_false_iff_not] at hb11p
      refine RW.off_guard rfl rfl rfl rfl hb11 ?_; refine RW.off_guard rfl rfl rfl rfl hb11 ?_; refine RW.off_guard rfl rfl rfl rfl hb11 ?_; refine RW.op1 rfl (runs_pick_false rfl hb11 rfl) ?_; refine RW.op1 rfl (runs_move rfl) ?_; refine RW.off_guard rfl rfl rfl rfl rfl ?_; refine RW.off_guard rfl rfl rfl rfl rfl ?_; refine RW.off_guard rfl rfl rfl rfl rfl ?_; refine RW.op1 rfl (runs_pick_false rfl rfl rfl) ?_; refine RW.op1 rfl (runs_assign rfl) ?_; refine RW.done ?_; refine AQ.next ?_; refine CW.ret ?_; refine AQ.ret1 rfl rfl ?_; exact ⟨by unfold mayM; simp_all <;> omega, hst.drop1⟩
  · have hb6p := hb6; try simp only [decide_eq_true_eq, decide_eq_false_iff_not] at hb6p
    refine RW.off_guard rfl rfl rfl rfl hb6 ?_; refine RW.off_guard rfl rfl rfl rfl hb6 ?_; refine RW.off_guard rfl rfl rfl rfl hb6 ?_; refine RW.op1 rfl (runs_pick_false rfl hb6 rfl) ?_; refine RW.op1 rfl (runs_move rfl) ?_; refine RW.off_guard rfl rfl rfl rfl rfl ?_; refine RW.off_guard rfl rfl rfl rfl rfl ?_; refine RW.off_guard rfl rfl rfl rfl rfl ?_; refine RW.op1 rfl (runs_pick_false rfl rfl rfl) ?_; refine RW.op1 rfl (runs_move rfl) ?_; refine RW.off_guard rfl rfl rfl rfl rfl ?_; refine RW.off_guard rfl rfl rfl rfl rfl ?_; refine RW.off_guard rfl rfl rfl rfl rfl ?_; refine RW.op1 rfl (runs_pick_false rfl rfl rfl) ?_; refine RW.op1 rfl (runs_assign rfl) ?_; refine RW.done ?_; refine AQ.next ?_; refine CW.ret ?_; refine AQ.ret1 rfl rfl ?_; exact ⟨by unfold mayM; simp_all <;> omega, hst.drop1⟩
end Go.Proofs.YtadgbifmiooikaaGreatX
namespace Go.Proofs.YtadgbifmiooikaaGreatX
set_option linter.unusedVariables false
set_option linter.unusedSimpArgs false
open Go Go.RowKit Go.Proofs
abbrev HRow := ByteArray × ByteArray
def hrow (r : HRow) : List Value := [.string r.1, .string r.2]
theorem hrow_len (r : HRow) : (hrow r).length = 2 := rfl
def RdH (I : Imm) (v : Value) (hs : List HRow) : Prop := RdL I 2 v hs.length (hs.flatMap hrow)
theorem hrow_at {rows : List HRow} {k : Nat} {r : HRow} (hr : rows[k]? = some r) : ∀ (j : Nat) (u : Value), (hrow r)[j]? = some u → (rows.flatMap hrow)[(k : Int).toNat * 2 + j]? = some u := by
  intro j u hj; have hj5 : j < 2 := (List.getElem?_eq_some_iff.1 hj).1; rw [Int.toNat_natCast, getElem?_flat hrow_len rows k j hj5, hr]; exact hj
end Go.Proofs.YtadgbifmiooikaaGreatX
namespace Go.Proofs.YtadgbifmiooikaaGreatX
set_option linter.unusedVariables false
set_option linter.unusedSimpArgs false
open Go Go.RowKit
variable {w0 w : World} {I : Imm} {L : Own} {P : Program} {l : Env} {ty : TypeId}
theorem perm_two2 {α : Type} (x y : α) (A B : List α) : (x :: y :: (A ++ B)).Perm (A ++ (x :: y :: B)) := ((List.perm_middle (l₁ := A) (a := y) (l₂ := B)).symm.cons x).trans List.perm_middle.symm
theorem boolN {b : Bool} {P : Prop} [Decidable P] (h : b = true ↔ P) : some (Value.bool b) = some (Value.bool (decide P)) := by
  congr 2
  by_cases hp : P
  · rw [decide_eq_true hp]; exact h.2 hp
  · rw [decide_eq_false hp]; cases b with
    | false => rfl
    | true => exact absurd (h.1 rfl) hp
end Go.Proofs.YtadgbifmiooikaaGreatX
namespace Go.Proofs.YtadgbifmiooikaaGreatX
set_option linter.unusedVariables false
set_option linter.unusedSimpArgs false
open Go Go.RowKit
variable {w0 w : World} {I : Imm} {L : Own} {P : Program}
def SrcH (I : Imm) (L : Own) (v : Value) (hs : List HRow) : Prop := ∃ B c, v = .slice B hs.length c ∧ ∀ (w0 w : World) (I' : Imm) (L' : Own), I.le I' → (∀ p ∈ L, p ∈ L') → St w0 w I' L' → ∀ j u, (hs.flatMap hrow)[j]? = some u → ∃ a, B = some a ∧ w.cell? (a.add j) = some u
theorem RdH.srcH {v : Value} {hs : List HRow} (h : RdH I v hs) (L : Own) : SrcH I L v hs := by
  obtain ⟨_, _, A, c, rfl, _, h4⟩ := h; refine ⟨A, c, rfl, fun w0 w I' L' hI _ hst j u hj => ?_⟩; obtain ⟨a, h5, h6⟩ := h4 j u hj; exact ⟨a, h5, hst.cell_imm (hI.cell h6)⟩
theorem Grow.srcH {v : Value} {hs : List HRow} {Lv : Own} (hg : Grow 54 2 v hs.length (hs.flatMap hrow) Lv) (hsub : ∀ p ∈ Lv, p ∈ L) : SrcH I L v hs := by
  have hc := fun (w0 w : World) (I' : Imm) (L' : Own) (hL : ∀ p ∈ L, p ∈ L') (hst : St w0 w I' L') (j : Nat) (u : Value) (hj : (hs.flatMap hrow)[j]? = some u) => Grow.cell hg hst (fun p hp => hL p (hsub p hp)) hj
  obtain ⟨h1, _, ⟨rfl, h0, rfl⟩ | ⟨g, cap, cur, rfl, rfl, _⟩⟩ := hg
  · refine ⟨none, 0, by rw [h0], fun w0 w I' L' _ _ _ j u hj => ?_⟩; rw [List.eq_nil_of_length_eq_zero h0] at hj
    simp at hj
  · exact ⟨_, _, rfl, fun w0 w I' L' _ hL hst j u hj => ⟨_, rfl, hc w0 w I' L' hL hst j u hj⟩⟩
theorem SrcH.mono {v : Value} {hs : List HRow} (h : SrcH I L v hs) {I' : Imm} {L' : Own} (hI : I.le I') (hL : ∀ p ∈ L, p ∈ L') : SrcH I' L' v hs := by
  obtain ⟨B, c, e, h⟩ := h; exact ⟨B, c, e, fun w0 w I2 L2 h1 h2 hst j u hj => h w0 w I2 L2 (hI.trans h1) (fun p hp => h2 p (hL p hp)) hst j u hj⟩
theorem hrow_one (hs : List HRow) : ∀ u ∈ hs.flatMap hrow, u.oneCell' = true := by
  intro u hu; obtain ⟨r, _, h⟩ := List.mem_flatMap.1 hu
  simp only [hrow, List.mem_cons, List.not_mem_nil, or_false] at h
  rcases h with rfl | rfl <;> rfl
theorem flat_len2 (hs : List HRow) : (hs.flatMap hrow).length = hs.length * 2 := by
  induction hs with
  | nil => rfl
  | cons r t ih => rw [List.flatMap_cons, List.length_append, ih, hrow_len, List.length_cons]; omega
structure It where
  id : Int
  kind : Int
  group : Int
  name : ByteArray
  method : ByteArray
  url : ByteArray
  heads : List HRow
  body : ByteArray
  mode : Int
  creds : Int
  page : ByteArray
  csp : ByteArray
  refer : Int
  nurl : ByteArray
  nmethod : ByteArray
  nbody : ByteArray
  hops : Int
  tries : Int
  til : Int
  tainted : Bool
  got : ByteArray
  tag : ByteArray
  state : Int
  code : Int
  acked : Bool
abbrev itv (it : It) (vh : Value) : Value := .agg #[.int .i64 it.id, .int .i64 it.kind, .int .i64 it.group, .string it.name, .string it.method, .string it.url, vh, .string it.body, .int .i64 it.mode, .int .i64 it.creds, .string it.page, .string it.csp, .int .i64 it.refer, .string it.nurl, .string it.nmethod, .string it.nbody, .int .i64 it.hops, .int .i64 it.tries, .int .i64 it.til, .bool it.tainted, .string it.got, .string it.tag, .int .i64 it.state, .int .i64 it.code, .bool it.acked]
def zeroIt : It := ⟨0, 0, 0, .empty, .empty, .empty, [], .empty, 0, 0, .empty, .empty, 0, .empty, .empty, .empty, 0, 0, 0, false, .empty, .empty, 0, 0, false⟩
theorem it_one (it : It) {vh : Value} (h : vh.oneCell' = true) : [Value.int .i64 it.id, Value.int .i64 it.kind, Value.int .i64 it.group, Value.string it.name, Value.string it.method, Value.string it.url, vh, Value.string it.body, Value.int .i64 it.mode, Value.int .i64 it.creds, Value.string it.page, Value.string it.csp, Value.int .i64 it.refer, Value.string it.nurl, Value.string it.nmethod, Value.string it.nbody, Value.int .i64 it.hops, Value.int .i64 it.tries, Value.int .i64 it.til, Value.bool it.tainted, Value.string it.got, Value.string it.tag, Value.int .i64 it.state, Value.int .i64 it.code, Value.bool it.acked].all Value.oneCell' = true := by
  simp only [List.all_cons, h, List.all_nil]
  rfl
abbrev TRow := Int × (It × Value)
def trend (rows : List TRow) : List (Int × Value) := rend (fun p => itv p.1 p.2) rows
def TbO (I : Imm) (rows : List TRow) (next : Int) (bT : Nat) (Lt : Own) : Prop := ∃ bM oM, Lt = [(bT, .cells #[.map (some bM), .int .i64 next] 101), (bM, oM)] ∧ MapR kI oM (trend rows) ∧ (rows.map Prod.fst).Nodup ∧
  (∀ r ∈ rows, i64ok r.1 ∧ RdH I r.2.2 r.2.1.heads ∧ r.2.1.heads.length ≤ 100000000) ∧ i64ok next
theorem RdH.mono {I' : Imm} {v : Value} {hs : List HRow} (h : RdH I v hs) (hI : I.le I') : RdH I' v hs := RdL.mono hI h
theorem TbO.mono {I' : Imm} {rows : List TRow} {next : Int} {bT : Nat} {Lt : Own} (h : TbO I rows next bT Lt) (hI : I.le I') : TbO I' rows next bT Lt := by
  obtain ⟨bM, oM, e, h1, h2, h3, h4⟩ := h; exact ⟨bM, oM, e, h1, h2, fun r hr => ⟨(h3 r hr).1, (h3 r hr).2.1.mono hI, (h3 r hr).2.2⟩, h4⟩
theorem pput_mem {α : Type} {rows : List (Int × α)} {k : Int} {v : α} {r : Int × α} (h : r ∈ pput rows k v) : r = (k, v) ∨ r ∈ rows := by
  induction rows with
  | nil => exact .inl (by simpa [pput] using h)
  | cons p t ih =>
    obtain ⟨a, u⟩ := p; unfold pput at h
    by_cases hk : k = a
    · rw [if_pos hk] at h
      rcases List.mem_cons.1 h with e | h
      · exact .inl (by rw [e, hk])
      · exact .inr (List.mem_cons_of_mem _ h)
    · rw [if_neg hk] at h
      rcases List.mem_cons.1 h with e | h
      · exact .inr (by rw [e]; exact List.mem_cons_self ..)
      · exact (ih h).imp id (List.mem_cons_of_mem _)
theorem pdel_mem {α : Type} {rows : List (Int × α)} {k : Int} {r : Int × α} (h : r ∈ pdel rows k) : r ∈ rows := by
  induction rows with
  | nil => cases h
  | cons p t ih =>
    obtain ⟨a, u⟩ := p; unfold pdel at h
    by_cases hk : k = a
    · rw [if_pos hk] at h; exact List.mem_cons_of_mem _ h
    · rw [if_neg hk] at h
      rcases List.mem_cons.1 h with e | h
      · rw [e]; exact List.mem_cons_self ..
      · exact List.mem_cons_of_mem _ (ih h)
theorem wf_of {k : Int} (h : i64ok k) : (Lit.int .i64 k).wf = true := by
  unfold i64ok at h
  simp only [Lit.wf, Bool.and_eq_true, decide_eq_true_eq]
  exact h
def keysUp {α : Type} (rows : List (Int × α)) : List Int := (rows.map Prod.fst).mergeSort fun x y => decide (x ≤ y)
end Go.Proofs.YtadgbifmiooikaaGreatX
namespace Go.Proofs.YtadgbifmiooikaaGreatX
set_option linter.unusedVariables false
set_option linter.unusedSimpArgs false
open Go Go.RowKit Go.Proofs
set_option maxRecDepth 100000 in
set_option maxHeartbeats 1000000 in
theorem hclone_spec {w0 w : World} {I : Imm} {L : Own} (hst : St w0 w I L) {v : Value} {hs : List HRow} (hv : SrcH I L v hs) (hlen : hs.length ≤ 100000000) :
    Calls Tryz.prog 86 #[v] w fun e w' => ∃ v' Lv', e = .returned v' ∧ St w0 w' I (Lv' ++ L) ∧ Grow 54 2 v' (hs).length ((hs).flatMap hrow) Lv' := by
  obtain ⟨A, c, rfl, hsrc⟩ := hv; refine enter Tryz.func86 rfl (N := 8) rfl rfl ?_
  simp only [List.zipIdx_cons, List.zipIdx_nil, List.map_cons, List.map_nil, Nat.zero_add, Nat.reduceAdd]
  have hle := Imm.le.refl I; refine CW.seq ?_; refine CW.region ?_; refine RW.op1 rfl (runs_assign rfl) ?_; refine RW.done ?_; refine AQ.next ?_; refine CW.seq ?_; refine CW.seq ?_; refine CW.region ?_; refine RW.op1 rfl (runs_move rfl) ?_; refine RW.op1 rfl (runs_eq_nilslice Tryz.underlying34 rfl) ?_; refine RW.done ?_; refine AQ.next ?_; refine CW.cond rfl (fun hc4 => ?_) (fun hc4 => ?_)
  · have hcb4 := hc4; try simp only [decide_eq_true_eq, decide_eq_false_iff_not] at hc4
    refine CW.seq ?_; refine CW.region ?_; refine RW.op1 rfl (runs_assign rfl) ?_; refine RW.done ?_; refine AQ.next ?_; refine CW.ret ?_; refine AQ.past_ret ?_; refine AQ.ret1 rfl rfl ?_
    have h0 : A = none := by simpa using hcb4
    subst h0
    have h1 : hs = [] := by
      cases hs with
      | nil => rfl
      | cons r t => obtain ⟨a, h, _⟩ := hsrc w0 w I L (Imm.le.refl _) (fun p hp => hp) hst 0 (.string r.1) rfl; cases h
    subst h1; exact ⟨_, [], rfl, hst, Grow.nil _ _⟩
  · have hcb4 := hc4; try simp only [decide_eq_true_eq, decide_eq_false_iff_not] at hc4
    refine CW.skip ?_; refine AQ.next ?_; refine CW.seq ?_; refine CW.region ?_; refine RW.opE rfl (runs_litF (xs := []) (size := 2) Tryz.underlying34 ti54 (by decide) rfl rfl rfl rfl rfl hst (by decide)) ?_; rintro u1 w ⟨Lv1, hstn, hg1⟩; clear hst; have hst := hstn; clear hstn; have hsr2 := hsrc w0 w I (Lv1 ++ L) (Imm.le.refl _) (fun p hp => List.mem_append_right _ hp) hst; have hg5 := hg1; refine RW.op1 rfl (runs_move rfl) ?_; refine RW.opE rfl (runs_appendG Tryz.underlying34 ti54 rfl (by decide) rfl rfl hst hg5 (flat_len2 hs) hsr2 (hrow_one hs) (by omega) (by unfold maxLen; omega)) ?_; rintro u2 w ⟨Lv2, hstn, hg2⟩; clear hst; have hst := hstn; clear hstn; refine RW.op1 rfl (runs_assign rfl) ?_; refine RW.done ?_; refine AQ.next ?_; refine CW.ret ?_; refine AQ.ret1 rfl rfl ?_; refine ⟨_, _, rfl, hst, ?_⟩
    simpa using hg2
set_option maxRecDepth 100000 in
set_option maxHeartbeats 1000000 in
theorem own_spec {w0 w : World} {I : Imm} {L : Own} (hst : St w0 w I L) {it : It} {vh : Value} (hv : SrcH I L vh it.heads) (hlen : it.heads.length ≤ 100000000) :
    Calls Tryz.prog 56 #[itv it vh] w fun e w' => ∃ v' Lv', e = .returned (itv it v') ∧ St w0 w' I (Lv' ++ L) ∧ v'.oneCell' = true ∧ Grow 54 2 v' (it.heads).length ((it.heads).flatMap hrow) Lv' := by
  have hv0 := hv; obtain ⟨A, c, rfl, _⟩ := hv0; refine enter Tryz.func56 rfl (N := 10) rfl rfl ?_
  simp only [List.zipIdx_cons, List.zipIdx_nil, List.map_cons, List.map_nil, Nat.zero_add, Nat.reduceAdd]
  have hle := Imm.le.refl I; refine CW.seq ?_; refine CW.region ?_; refine RW.opE rfl (runs_box rfl hst) ?_; rintro _ w ⟨b1, rfl, hstn⟩; clear hst; have hst := hstn; clear hstn; refine RW.opE rfl (runs_alloc ti40 hst) ?_; rintro _ w ⟨b2, rfl, hstn⟩; clear hst; have hst := hstn; clear hstn; refine RW.done ?_; refine AQ.next ?_; refine CW.seq ?_; refine CW.region ?_
  refine RW.op1 rfl (runs_fieldAddr0 rfl Tryz.underlying40 rfl ti36 (by decide)) ?_
  refine RW.op1 rfl (runs_fieldAddr0 rfl Tryz.underlying36 rfl ti34 (by decide)) ?_
  refine RW.op1 rfl (runs_load1 sc34 rfl (hst.cell_own (k := 1) rfl rfl)) ?_
  refine RW.call rfl call86 rfl rfl (hclone_spec hst (hv.mono (Imm.le.refl _) (fun p hp => List.mem_cons_of_mem _ (List.mem_cons_of_mem _ hp))) hlen) ?_; rintro e w ⟨v6, Lv6, rfl, hstn, hg6⟩; clear hst; have hst := hstn; clear hstn; replace hst := hst.perm (List.perm_middle.trans (List.Perm.cons _ List.perm_middle))
  have hv6 : v6.oneCell' = true := by obtain ⟨_, _, ⟨rfl, _⟩ | ⟨g, cap, cur, rfl, _⟩⟩ := hg6 <;> rfl
  refine ⟨_, rfl, ?_⟩
  refine RW.op1 rfl (runs_fieldAddr0 rfl Tryz.underlying40 rfl ti36 (by decide)) ?_
  refine RW.op1 rfl (runs_fieldAddr0 rfl Tryz.underlying36 rfl ti34 (by decide)) ?_
  refine RW.opE0 (runs_store1P ti34 rfl rfl hst (k := 1) rfl rfl (NoFz.zero _) hv6) ?_; rintro w hstn; clear hst; have hst := hstn; clear hstn; try simp only [List.set_cons_zero, List.set_cons_succ] at hst
  refine RW.done ?_; refine AQ.next ?_; refine CW.seq ?_; refine CW.region ?_
  refine RW.op1 rfl (runs_loadN (vs := _) ag40 ti40 rfl hst (k := 1) rfl rfl rfl) ?_
  refine RW.opE0 (runs_storeW ti40 rfl rfl hst (k := 0) rfl rfl rfl (NoFz.zero _) (it_one it hv6)) ?_; rintro w hstn; clear hst; have hst := hstn; clear hstn; try simp only [List.set_cons_zero, List.set_cons_succ] at hst
  refine RW.done ?_; refine AQ.next ?_; refine CW.ret ?_; refine AQ.retS rfl rfl (hst.loadN (vs := [_, _, _, _, _, _, _, _, _, _, _, _, _, _, _, _, _, _, _, _, _, _, _, _, _]) (k := 0) ag40 ti40 rfl rfl rfl) ?_; exact ⟨v6, Lv6, rfl, hst.drop1.drop1, hv6, hg6⟩
def nextR (next id : Int) : Int := if IntKind.i64.wrap (id + 1) > next then IntKind.i64.wrap (id + 1) else next
theorem wrapT_ok (n : Int) : i64ok (IntKind.i64.wrap n) := by rw [IntKind.wrap_i64]; unfold i64ok; omega
theorem nextR_ok {next id : Int} (h : i64ok next) : i64ok (nextR next id) := by
  unfold nextR
  split
  · exact wrapT_ok _
  · exact h
theorem nextR_of {next id : Int} (h : i64ok (id + 1)) : nextR next id = if id + 1 > next then id + 1 else next := by
  have : IntKind.i64.wrap (id + 1) = id + 1 := by unfold i64ok at h; rw [IntKind.wrap_i64]; omega
  unfold nextR; rw [this]
theorem mget_t (rows : List TRow) (k : Int) : mget (trend rows) k = (pget rows k).map fun p => itv p.1 p.2 := mget_rend rows k
theorem mput_t (rows : List TRow) (k : Int) (it : It) (v : Value) : mput (trend rows) k (itv it v) = trend (pput rows k (it, v)) := mput_rend (g := fun p : It × Value => itv p.1 p.2) rows k (it, v)
theorem mdel_t (rows : List TRow) (k : Int) : mdel (trend rows) k = trend (pdel rows k) := mdel_rend rows k
set_option maxRecDepth 100000 in
set_option maxHeartbeats 1000000 in
theorem tnew_spec {w0 w : World} {I : Imm} {L : Own} (hst : St w0 w I L) :
    Calls Tryz.prog 47 #[] w fun e w' => ∃ bT Lt, e = .returned (.pointer (some ⟨bT, 0, none⟩)) ∧ St w0 w' I (Lt ++ L) ∧ TbO I [] 1 bT Lt := by
  refine enter Tryz.func47 rfl (N := 4) rfl rfl ?_
  simp only [List.zipIdx_cons, List.zipIdx_nil, List.map_cons, List.map_nil, Nat.zero_add, Nat.reduceAdd]
  have hle := Imm.le.refl I; refine CW.seq ?_; refine CW.region ?_; refine RW.op1 rfl (runs_assign rfl) ?_; refine RW.done ?_; refine AQ.next ?_; refine CW.seq ?_; refine CW.region ?_; refine RW.opE rfl (runs_makeMap hst) ?_; rintro _ w ⟨b1, rfl, hstn⟩; clear hst; have hst := hstn; clear hstn; refine RW.op1 rfl (runs_buildF (cells := [_, _]) bz101 rfl rfl rfl rfl rfl) ?_; refine RW.opE rfl (runs_box rfl hst) ?_; rintro _ w ⟨b2, rfl, hstn⟩; clear hst; have hst := hstn; clear hstn; refine RW.op1 rfl (runs_assign rfl) ?_; refine RW.done ?_; refine AQ.next ?_; refine CW.ret ?_; refine AQ.ret1 rfl rfl ?_; exact ⟨b2, [_, _], rfl, hst, b1, _, rfl, MapR.empty kI, List.nodup_nil, by simp, by unfold i64ok; decide⟩
set_option maxRecDepth 100000 in
set_option maxHeartbeats 1000000 in
theorem put_spec {w0 w : World} {I : Imm} {L : Own} {rows : List TRow} {next : Int} {bT : Nat} {Lt : Own} (hd : TbO I rows next bT Lt) (hst : St w0 w I (Lt ++ L)) {it : It} {vh : Value} (hv : SrcH I L vh it.heads) (hlen : it.heads.length ≤ 100000000) (hid : i64ok it.id) :
    Calls Tryz.prog 75 #[.pointer (some ⟨bT, 0, none⟩), itv it vh] w fun e w' => ∃ I' v' Lt', I.le I' ∧ e = .returned (.tuple #[]) ∧ St w0 w' I' (Lt' ++ L) ∧ TbO I' (pput rows it.id (it, v')) (nextR next it.id) bT Lt' := by
  obtain ⟨bM, oM, rfl, hm, hnd, hrows, hnx⟩ := hd; have hv0 := hv; obtain ⟨A, c, rfl, _⟩ := hv0; refine enter Tryz.func75 rfl (N := 23) rfl rfl ?_
  simp only [List.zipIdx_cons, List.zipIdx_nil, List.map_cons, List.map_nil, Nat.zero_add, Nat.reduceAdd]
  have hle := Imm.le.refl I; refine CW.seq ?_; refine CW.region ?_; refine RW.opE rfl (runs_box rfl hst) ?_; rintro _ w ⟨b1, rfl, hstn⟩; clear hst; have hst := hstn; clear hstn; refine RW.done ?_; refine AQ.next ?_; refine CW.seq ?_; refine CW.draw (FSt w0 I ((b1, _) :: (bT, Obj.cells #[.map (some bM), .int .i64 next] 101) :: L)) (.q 0 (.q 1 (.q 2 (.q 3 (.q 4 (.q 5 (.q 6 (.l 7 (.l 8 .nil))))))))) follows (by kernel_rfl) ⟨_, Imm.le.refl _, hst.draw.sub (((List.sublist_cons_self _ _).cons_cons _).cons_cons _)⟩ ?_; replace hst := hst.draw; refine DRW.q rfl rfl (fun w' hF => runs_move rfl) ?_; refine DRW.q rfl rfl (fun w' hF => runs_nilCheck rfl) ?_
  refine DRW.q rfl rfl (fun w' hF => runs_fieldAddr0 rfl Tryz.underlying101 rfl ti47 (by decide)) ?_
  refine DRW.q rfl rfl (FSt.load1_own sc47 rfl (k := 1) rfl rfl) ?_
  refine DRW.q rfl rfl (fun w' hF => runs_fieldAddr0 rfl Tryz.underlying40 rfl ti3 (by decide)) ?_
  refine DRW.q rfl rfl (FSt.load1_own sc3 rfl (k := 0) rfl rfl) ?_
  refine DRW.q rfl rfl (FSt.loadN (vs := _) ag40 ti40 rfl (k := 0) rfl rfl rfl) ?_
  refine DRW.call rfl rfl call56 rfl rfl (own_spec hst (hv.mono (Imm.le.refl _) (fun p hp => by simp [hp])) hlen) ?_; rintro e w ⟨v11, Lv11, rfl, hstn, hv11, hg11⟩; clear hst; have hst := hstn; clear hstn; obtain ⟨J, hJ, hstn, hfz⟩ := hg11.freeze hst; clear hst; have hst := hstn; clear hstn; replace hle := hle.trans hJ; refine ⟨_, rfl, FSt.of hst hJ (((List.sublist_cons_self _ _).cons_cons _).cons_cons _), ?_⟩; refine DRW.opE0 rfl (runs_mapUpdate (i := 2) (keyI Tryz.underlying3) Tryz.underlying47 rfl rfl rfl hst rfl hm) ?_; rintro w ⟨o8, hstn, hm8⟩; clear hst; have hst := hstn; clear hstn; refine ⟨FSt.of hst hJ (((List.sublist_cons_self _ _).cons_cons _).cons_cons _), ?_⟩; try simp only [List.set_cons_zero, List.set_cons_succ] at hst
  refine DRW.done ?_; refine AQ.next ?_; refine CW.draw (fun _ => True) (.q 0 (.q 1 (.q 2 (.q 3 (.q 5 (.fork (.l 4 (.l 6 (.q 7 (.q 8 (.q 9 (.q 10 (.l 11 .nil))))))) (.l 6 (.q 7 (.l 4 (.q 8 (.q 9 (.q 10 (.l 11 .nil))))))))))))) follows (by kernel_rfl) trivial ?_; replace hst := hst.draw; refine DRW.q rfl rfl (fun w' hF => runs_move rfl) ?_; refine DRW.q rfl rfl (fun w' hF => runs_move rfl) ?_; refine DRW.q rfl rfl (fun w' hF => runs_nilCheck rfl) ?_
  refine DRW.q rfl rfl (fun w' hF => runs_fieldAddr0 rfl Tryz.underlying101 rfl ti3 (by decide)) ?_
  refine DRW.q rfl rfl (fun w' hF => runs_fieldAddr0 rfl Tryz.underlying40 rfl ti3 (by decide)) ?_
  refine DRW.fork ?_ ?_
  · refine DRW.op1 rfl rfl (runs_load1 sc3 rfl (hst.cell_own (k := 1) rfl rfl)) trivial ?_
    refine DRW.op1 rfl rfl (runs_load1 sc3 rfl (hst.cell_own (k := 0) rfl rfl)) trivial ?_
    refine DRW.q rfl rfl (fun w' hF => runs_addW rfl rfl) ?_; refine DRW.q rfl rfl (fun w' hF => runs_max rfl rfl) ?_; refine DRW.q rfl rfl (fun w' hF => runs_nilCheck rfl) ?_
    refine DRW.q rfl rfl (fun w' hF => runs_fieldAddr0 rfl Tryz.underlying101 rfl ti3 (by decide)) ?_
    refine DRW.opE0 rfl (runs_store1P ti3 rfl rfl hst (k := 1) rfl rfl (NoFz.zero _) rfl) ?_
    rintro w hstn; clear hst; have hst := hstn; clear hstn; try simp only [List.set_cons_zero, List.set_cons_succ] at hst
    refine ⟨trivial, ?_⟩; refine DRW.done ?_; refine AQ.end0 rfl ?_; rw [mput_t] at hm8; refine ⟨J, v11, [_, _], hle, rfl, hst.drop1, bM, o8, rfl, hm8, pput_nodup hnd _ _, fun r hr => ?_, nextR_ok hnx⟩
    rcases pput_mem hr with rfl | hr
    · exact ⟨hid, hfz, hlen⟩
    · exact ⟨(hrows r hr).1, (hrows r hr).2.1.mono hJ, (hrows r hr).2.2⟩
  refine DRW.op1 rfl rfl (runs_load1 sc3 rfl (hst.cell_own (k := 0) rfl rfl)) trivial ?_
  refine DRW.q rfl rfl (fun w' hF => runs_addW rfl rfl) ?_
  refine DRW.op1 rfl rfl (runs_load1 sc3 rfl (hst.cell_own (k := 1) rfl rfl)) trivial ?_
  refine DRW.q rfl rfl (fun w' hF => runs_max rfl rfl) ?_; refine DRW.q rfl rfl (fun w' hF => runs_nilCheck rfl) ?_
  refine DRW.q rfl rfl (fun w' hF => runs_fieldAddr0 rfl Tryz.underlying101 rfl ti3 (by decide)) ?_
  refine DRW.opE0 rfl (runs_store1P ti3 rfl rfl hst (k := 1) rfl rfl (NoFz.zero _) rfl) ?_
  rintro w hstn; clear hst; have hst := hstn; clear hstn; try simp only [List.set_cons_zero, List.set_cons_succ] at hst
  refine ⟨trivial, ?_⟩; refine DRW.done ?_; refine AQ.end0 rfl ?_; rw [mput_t] at hm8; refine ⟨J, v11, [_, _], hle, rfl, hst.drop1, bM, o8, rfl, hm8, pput_nodup hnd _ _, fun r hr => ?_, nextR_ok hnx⟩
  rcases pput_mem hr with rfl | hr
  · exact ⟨hid, hfz, hlen⟩
  · exact ⟨(hrows r hr).1, (hrows r hr).2.1.mono hJ, (hrows r hr).2.2⟩
set_option maxRecDepth 100000 in
set_option maxHeartbeats 1000000 in
theorem next_spec {w0 w : World} {I : Imm} {L : Own} {rows : List TRow} {next : Int} {bT : Nat} {Lt : Own} (hd : TbO I rows next bT Lt) (hst : St w0 w I (Lt ++ L)) :
    Calls Tryz.prog 31 #[.pointer (some ⟨bT, 0, none⟩)] w fun e w' => e = .returned (.int .i64 next) ∧ St w0 w' I (Lt ++ L) := by
  obtain ⟨bM, oM, rfl, hm, hnd, hrows, hnx⟩ := hd; refine enter Tryz.func31 rfl (N := 7) rfl rfl ?_
  simp only [List.zipIdx_cons, List.zipIdx_nil, List.map_cons, List.map_nil, Nat.zero_add, Nat.reduceAdd]
  have hle := Imm.le.refl I; refine CW.seq ?_; refine CW.region ?_; refine RW.op1 rfl (runs_assign rfl) ?_; refine RW.done ?_; refine AQ.next ?_; refine CW.seq ?_; refine CW.region ?_; refine RW.op1 rfl (runs_move rfl) ?_; refine RW.op1 rfl (runs_nilCheck rfl) ?_
  refine RW.op1 rfl (runs_fieldAddr0 rfl Tryz.underlying101 rfl ti3 (by decide)) ?_
  refine RW.op1 rfl (runs_load1 sc3 rfl (hst.cell_own (k := 0) rfl rfl)) ?_
  refine RW.op1 rfl (runs_assign rfl) ?_; refine RW.done ?_; refine AQ.next ?_; refine CW.ret ?_; refine AQ.ret1 rfl rfl ?_; exact ⟨rfl, hst⟩
set_option maxRecDepth 100000 in
set_option maxHeartbeats 1000000 in
theorem drop_spec {w0 w : World} {I : Imm} {L : Own} {rows : List TRow} {next : Int} {bT : Nat} {Lt : Own} (hd : TbO I rows next bT Lt) (hst : St w0 w I (Lt ++ L)) (id : Int) :
    Calls Tryz.prog 76 #[.pointer (some ⟨bT, 0, none⟩), .int .i64 id] w fun e w' => ∃ Lt', e = .returned (.bool (pget rows id).isSome) ∧ St w0 w' I (Lt' ++ L) ∧ TbO I (pdel rows id) next bT Lt' := by
  obtain ⟨bM, oM, rfl, hm, hnd, hrows, hnx⟩ := hd
  obtain ⟨it, vh, hq, hvh⟩ : ∃ it vh, ((mget (trend rows) id).getD (itv zeroIt (.slice none 0 0))) = itv it vh ∧ vh.oneCell' = true := by
    rw [mget_t]
    cases hp : pget rows id with
    | none => exact ⟨_, _, rfl, rfl⟩
    | some p =>
      obtain ⟨it, vh⟩ := p; have h2 := (hrows _ (pget_mem hp)).2.1; exact ⟨it, vh, rfl, RdL.one h2⟩
  refine enter Tryz.func76 rfl (N := 22) rfl rfl ?_
  simp only [List.zipIdx_cons, List.zipIdx_nil, List.map_cons, List.map_nil, Nat.zero_add, Nat.reduceAdd]
  have hle := Imm.le.refl I; refine CW.seq ?_; refine CW.region ?_; refine RW.op1 rfl (runs_assign rfl) ?_; refine RW.done ?_; refine AQ.next ?_; refine CW.seq ?_; refine CW.region ?_; refine RW.op1 rfl (runs_move rfl) ?_; refine RW.op1 rfl (runs_nilCheck rfl) ?_
  refine RW.op1 rfl (runs_fieldAddr0 rfl Tryz.underlying101 rfl ti47 (by decide)) ?_
  refine RW.op1 rfl (runs_load1 sc47 rfl (hst.cell_own (k := 0) rfl rfl)) ?_
  refine RW.op1 rfl (runs_move rfl) ?_; refine RW.op1 rfl (runs_lookupOk (i := 1) (keyI Tryz.underlying3) Tryz.underlying47 ti40 rfl rfl hst rfl hm) ?_; rw [show (Value.agg #[.int .i64 0, .int .i64 0, .int .i64 0, .string .empty, .string .empty, .string .empty, .slice none 0 0, .string .empty, .int .i64 0, .int .i64 0, .string .empty, .string .empty, .int .i64 0, .string .empty, .string .empty, .string .empty, .int .i64 0, .int .i64 0, .int .i64 0, .bool false, .string .empty, .string .empty, .int .i64 0, .int .i64 0, .bool false]) = itv zeroIt (.slice none 0 0) from rfl, hq]; refine RW.op1 rfl (runs_move rfl) ?_; refine RW.op1 rfl (runs_extract rfl rfl) ?_; refine RW.op1 rfl (runs_extract rfl rfl) ?_; refine RW.opE rfl (runs_alloc ti40 hst) ?_; rintro _ w ⟨b1, rfl, hstn⟩; clear hst; have hst := hstn; clear hstn; refine RW.opE0 (runs_storeW ti40 rfl rfl hst (k := 0) rfl rfl rfl (NoFz.zero _) (it_one it hvh)) ?_; rintro w hstn; clear hst; have hst := hstn; clear hstn; try simp only [List.set_cons_zero, List.set_cons_succ] at hst
  refine RW.op1 rfl (runs_assign rfl) ?_; refine RW.done ?_; refine AQ.next ?_; refine CW.seq ?_; refine CW.region ?_; refine RW.op1 rfl (runs_move rfl) ?_; refine RW.op1 rfl (runs_nilCheck rfl) ?_
  refine RW.op1 rfl (runs_fieldAddr0 rfl Tryz.underlying101 rfl ti47 (by decide)) ?_
  refine RW.op1 rfl (runs_load1 sc47 rfl (hst.cell_own (k := 1) rfl rfl)) ?_
  refine RW.op1 rfl (runs_move rfl) ?_; refine RW.opE0v (runs_delete (i := 2) (keyI Tryz.underlying3) Tryz.underlying47 rfl rfl hst rfl hm) ?_; rintro u w ⟨o8, hstn, hm8⟩; clear hst; have hst := hstn; clear hstn; try simp only [List.set_cons_zero, List.set_cons_succ] at hst
  refine RW.done ?_; refine AQ.next ?_; refine CW.seq ?_; refine CW.region ?_; refine RW.op1 rfl (runs_move rfl) ?_; refine RW.op1 rfl (runs_assign rfl) ?_; refine RW.done ?_; refine AQ.next ?_; refine CW.ret ?_; refine AQ.ret1 rfl rfl ?_; rw [mdel_t] at hm8; refine ⟨[_, _], ?_, hst.drop1, bM, o8, rfl, hm8, pdel_nodup hnd _, fun r hr => hrows r (pdel_mem hr), hnx⟩; rw [mget_t, Option.isSome_map]
set_option maxRecDepth 100000 in
set_option maxHeartbeats 1000000 in
theorem get_spec {w0 w : World} {I : Imm} {L : Own} {rows : List TRow} {next : Int} {bT : Nat} {Lt : Own} (hd : TbO I rows next bT Lt) (hst : St w0 w I (Lt ++ L)) (id : Int) :
    Calls Tryz.prog 33 #[.pointer (some ⟨bT, 0, none⟩), .int .i64 id] w fun e w' => ∃ (it : It) (v' : Value) (Lv' : Own), e = .returned (.tuple #[itv it v', .bool (pget rows id).isSome]) ∧ St w0 w' I (Lv' ++ (Lt ++ L)) ∧ v'.oneCell' = true ∧ Grow 54 2 v' (it.heads).length ((it.heads).flatMap hrow) Lv' ∧ it.heads.length ≤ 100000000 ∧ ((pget rows id).map Prod.fst).getD zeroIt = it := by
  obtain ⟨bM, oM, rfl, hm, hnd, hrows, hnx⟩ := hd
  obtain ⟨it, vh, hq, hvs, hvl, hit⟩ : ∃ it vh, ((mget (trend rows) id).getD (itv zeroIt (.slice none 0 0))) = itv it vh ∧ RdH I vh it.heads ∧ it.heads.length ≤ 100000000 ∧ ((pget rows id).map Prod.fst).getD zeroIt = it := by
    rw [mget_t]
    cases hp : pget rows id with
    | none => exact ⟨zeroIt, _, rfl, RdL.nil 2, by decide, rfl⟩
    | some p =>
      obtain ⟨it, vh⟩ := p; have h2 := hrows _ (pget_mem hp); exact ⟨it, vh, rfl, h2.2.1, h2.2.2, rfl⟩
  refine enter Tryz.func33 rfl (N := 20) rfl rfl ?_
  simp only [List.zipIdx_cons, List.zipIdx_nil, List.map_cons, List.map_nil, Nat.zero_add, Nat.reduceAdd]
  have hle := Imm.le.refl I; refine CW.seq ?_; refine CW.region ?_; refine RW.opE rfl (runs_alloc ti40 hst) ?_; rintro _ w ⟨b1, rfl, hstn⟩; clear hst; have hst := hstn; clear hstn; refine RW.op1 rfl (runs_assign rfl) ?_; refine RW.done ?_; refine AQ.next ?_; refine CW.seq ?_; refine CW.region ?_; refine RW.op1 rfl (runs_move rfl) ?_; refine RW.op1 rfl (runs_nilCheck rfl) ?_
  refine RW.op1 rfl (runs_fieldAddr0 rfl Tryz.underlying101 rfl ti47 (by decide)) ?_
  refine RW.op1 rfl (runs_load1 sc47 rfl (hst.cell_own (k := 1) rfl rfl)) ?_
  refine RW.op1 rfl (runs_move rfl) ?_; refine RW.op1 rfl (runs_lookupOk (i := 2) (keyI Tryz.underlying3) Tryz.underlying47 ti40 rfl rfl hst rfl hm) ?_; rw [show (Value.agg #[.int .i64 0, .int .i64 0, .int .i64 0, .string .empty, .string .empty, .string .empty, .slice none 0 0, .string .empty, .int .i64 0, .int .i64 0, .string .empty, .string .empty, .int .i64 0, .string .empty, .string .empty, .string .empty, .int .i64 0, .int .i64 0, .int .i64 0, .bool false, .string .empty, .string .empty, .int .i64 0, .int .i64 0, .bool false]) = itv zeroIt (.slice none 0 0) from rfl, hq]; refine RW.op1 rfl (runs_move rfl) ?_; refine RW.op1 rfl (runs_extract rfl rfl) ?_; refine RW.op1 rfl (runs_extract rfl rfl) ?_; refine RW.opE rfl (runs_alloc ti40 hst) ?_; rintro _ w ⟨b2, rfl, hstn⟩; clear hst; have hst := hstn; clear hstn; refine RW.opE0 (runs_storeW ti40 rfl rfl hst (k := 0) rfl rfl rfl (NoFz.zero _) (it_one it (RdL.one hvs))) ?_; rintro w hstn; clear hst; have hst := hstn; clear hstn; try simp only [List.set_cons_zero, List.set_cons_succ] at hst
  refine RW.op1 rfl (runs_assign rfl) ?_; refine RW.done ?_; refine AQ.next ?_; refine CW.seq ?_; refine CW.region ?_
  refine RW.op1 rfl (runs_loadN (vs := _) ag40 ti40 rfl hst (k := 0) rfl rfl rfl) ?_
  refine RW.call rfl call56 rfl rfl (own_spec hst (hvs.srcH _) hvl) ?_; rintro e w ⟨v18, Lv18, rfl, hstn, hv18, hg18⟩; clear hst; have hst := hstn; clear hstn; replace hst := hst.perm (List.perm_middle.trans (List.Perm.cons _ List.perm_middle)); refine ⟨_, rfl, ?_⟩; refine RW.op1 rfl (runs_move rfl) ?_; refine RW.opE0 (runs_storeW ti40 rfl rfl hst (k := 1) rfl rfl rfl (NoFz.zero _) (it_one it hv18)) ?_; rintro w hstn; clear hst; have hst := hstn; clear hstn; try simp only [List.set_cons_zero, List.set_cons_succ] at hst
  refine RW.op1 rfl (runs_assign rfl) ?_; refine RW.done ?_; refine AQ.next ?_; refine CW.ret ?_; refine AQ.retL (rs := [.cell 4 40, .tmp 5]) (vs := [_, _]) rfl ⟨⟨_, rfl, hst.loadN (vs := [_, _, _, _, _, _, _, _, _, _, _, _, _, _, _, _, _, _, _, _, _, _, _, _, _]) (k := 1) ag40 ti40 rfl rfl rfl⟩, rfl, trivial⟩ (by simp) ?_; exact ⟨it, v18, Lv18, by rw [mget_t, Option.isSome_map], hst.drop1.drop1, hv18, hg18, hvl, hit⟩
end Go.Proofs.YtadgbifmiooikaaGreatX
namespace Go.Proofs.YtadgbifmiooikaaGreatX
set_option linter.unusedVariables false
set_option linter.unusedSimpArgs false
open Go Go.RowKit Go.Proofs
theorem sorts_spec (m : Nat) : AnyZI.SortsIn Tryz.prog Tryz.sortedA_ren Fence.wide m :=
  ⟨fun blk off cap ss W hH hblk hsz => callsIn_wide.2 (Tryz.slices_Sort_int blk off cap ss W hH hblk hsz), fun p cap W => callsIn_wide.2 (Tryz.slices_Sort_int_none p cap W)⟩
theorem keysA_spec {w0 w : World} {I : Imm} {L : Own} (hst : St w0 w I L) (b : Nat) : Calls Tryz.prog 55 #[.map (some b)] w fun e w' => ∃ b1, e = .returned (.func (.func 85) #[] #[.pointer (some ⟨b1, 0, none⟩)]) ∧ St w0 w' I ((b1, .cells #[.map (some b)] 47) :: L) := by
  have h : CallsIn Fence.wide 5 Tryz.prog 55 #[.map (some b)] w fun e w' => e = .returned (.func (.func 85) #[] #[.pointer (some ⟨w.heap.size, 0, none⟩)]) ∧ w' = w.alloc (.cells #[.map (some b)] 47) := AnyZI.keys_in Tryz.keysA Fence.wide 5 trivial rfl (some b) w
  refine (callsIn_wide.1 h).mono ?_; rintro e w' ⟨rfl, rfl⟩; exact ⟨_, rfl, hst.heap_new _⟩
theorem sortedA_spec {w0 w : World} {I : Imm} {L : Own} {b1 bM : Nat} {oM : Obj} {rows : List (Int × Value)} (hst : St w0 w I ((b1, .cells #[.map (some bM)] 47) :: L)) (hin : (bM, oM) ∈ L) (hm : MapR kI oM rows) (hnd : (rows.map Prod.fst).Nodup) (hw : ∀ r ∈ rows, i64ok r.1) (hz : rows.length ≤ 1000000) :
    Calls Tryz.prog 54 #[.func (.func 85) #[] #[.pointer (some ⟨b1, 0, none⟩)]] w fun e w' => ∃ I' v, I.le I' ∧ e = .returned v ∧ St w0 w' I' L ∧ RdI I' v ((rows.map Prod.fst).mergeSort fun x y => decide (x ≤ y)) := by
  have hb : w.heap[bM]? = some oM := hst.own _ (List.mem_cons_of_mem _ hin); obtain ⟨D, hown, hperm, hsz⟩ := hm.owns (P := Tryz.prog) (kt := 3) Tryz.underlying3 hb hnd (fun r hr => wf_of (hw r hr)) (by unfold maxLen; omega)
  have hseq : SeqGives Fence.wide 2 Tryz.prog 85 #[.pointer (some ⟨b1, 0, none⟩)] encZ (fun ss => ss.Perm (intKeys D)) (Maps.size D) w :=
    AnyZI.keys_gives (ρ := Tryz.keysA_ren) { Tryz.keysA with } Fence.wide _ trivial rfl (by omega) b1 bM _ D w (hst.lt_own (p := (b1, _)) (List.mem_cons_self ..)) (hst.cell_own (k := 0) rfl rfl) hown
  have h := AnyZI.sorted_in Tryz.sortedA Fence.wide 5 trivial trivial trivial trivial rfl (by omega) (sorts_spec _) (enters_of Tryz.func84 (by kernel_rfl) rfl) 85 #[.pointer (some ⟨b1, 0, none⟩)] trivial (enters_of Tryz.func85 (by kernel_rfl) rfl) _ _ (by rw [hsz]; unfold maxLen; omega) (by rw [hsz]; omega) _ hseq
  change CallsIn Fence.wide 5 Tryz.prog 54 _ _ _ at h
  refine (callsIn_wide.1 h).mono ?_; rintro e w' ⟨v, ss, rfl, hS, hrow, _, hbl⟩; have hrow2 : w'.ownsRow w.heap.size 3 1 v ss.length ((ss.mergeSort (fun x y => decide (x ≤ y))).map encZ) := hrow
  obtain ⟨Lv, hst2, hg⟩ := hst.drop1.ownsRow hbl hrow2 (by
    intro u hu; obtain ⟨x, _, rfl⟩ := List.mem_map.1 hu
    rfl)
  obtain ⟨I', h1, h2, h3⟩ := hg.freeze hst2; refine ⟨I', v, h1, rfl, h2, ?_⟩; have e : ss.mergeSort (fun x y => decide (x ≤ y)) = (rows.map Prod.fst).mergeSort (fun x y => decide (x ≤ y)) := mergeSort_of_perm_i (hS.trans hperm)
  have hl : ss.length = ((rows.map Prod.fst).mergeSort fun x y => decide (x ≤ y)).length := by rw [← e, List.length_mergeSort]
  rw [e, hl] at h3; exact h3
set_option maxRecDepth 100000 in
set_option maxHeartbeats 1000000 in
theorem ids_spec {w0 w : World} {I : Imm} {L : Own} {rows : List TRow} {next : Int} {bT : Nat} {Lt : Own} (hd : TbO I rows next bT Lt) (hst : St w0 w I (Lt ++ L)) (hz : rows.length ≤ 1000000) :
    Calls Tryz.prog 32 #[.pointer (some ⟨bT, 0, none⟩)] w fun e w' => ∃ I' v, I.le I' ∧ e = .returned v ∧ St w0 w' I' (Lt ++ L) ∧ RdI I' v (keysUp rows) := by
  obtain ⟨bM, oM, rfl, hm, hnd, hrows, hnx⟩ := hd; refine enter Tryz.func32 rfl (N := 9) rfl rfl ?_
  simp only [List.zipIdx_cons, List.zipIdx_nil, List.map_cons, List.map_nil, Nat.zero_add, Nat.reduceAdd]
  have hle := Imm.le.refl I; refine CW.seq ?_; refine CW.region ?_; refine RW.op1 rfl (runs_assign rfl) ?_; refine RW.done ?_; refine AQ.next ?_; refine CW.seq ?_; refine CW.region ?_; refine RW.op1 rfl (runs_move rfl) ?_; refine RW.op1 rfl (runs_nilCheck rfl) ?_
  refine RW.op1 rfl (runs_fieldAddr0 rfl Tryz.underlying101 rfl ti47 (by decide)) ?_
  refine RW.op1 rfl (runs_load1 sc47 rfl (hst.cell_own (k := 0) rfl rfl)) ?_
  refine RW.call rfl call55 rfl rfl (keysA_spec hst bM) ?_; rintro e w ⟨b7, rfl, hstn⟩; clear hst; have hst := hstn; clear hstn; refine ⟨_, rfl, ?_⟩
  refine RW.call rfl call54 rfl rfl (sortedA_spec hst (show (bM, oM) ∈ _ from by simp) hm (by unfold trend; rw [rend_keys]; exact hnd) (fun r hr => by
    unfold trend rend at hr; obtain ⟨q, hq, rfl⟩ := List.mem_map.1 hr
    exact (hrows q hq).1) (by unfold trend; rw [rend_len]; exact hz)) ?_
  rintro e w ⟨I8, v8, hI8, rfl, hstn, hv8⟩; clear hst; have hst := hstn; clear hstn; replace hle := hle.trans hI8; refine ⟨_, rfl, ?_⟩; refine RW.op1 rfl (runs_assign rfl) ?_; refine RW.done ?_; refine AQ.next ?_; refine CW.ret ?_; refine AQ.ret1 rfl rfl ?_; refine ⟨_, v8, hle, rfl, hst, ?_⟩; unfold trend at hv8; rw [rend_keys] at hv8; exact hv8
end Go.Proofs.YtadgbifmiooikaaGreatX
namespace Go.Proofs.YtadgbifmiooikaaGreatX
set_option linter.unusedVariables false
set_option linter.unusedSimpArgs false
open Go Go.RowKit Go.Proofs
theorem RdH.nil (I : Imm) : RdH I (.slice none 0 0) [] := RdL.nil 2
theorem St.dropF {I : Imm} {Lt L : Own} {w0 w : World} (hst : St w0 w I (Lt ++ L)) : St w0 w I L := hst.sub (List.sublist_append_right _ _)
theorem pput_map {α β : Type} (g : α → β) (rows : List (Int × α)) (k : Int) (v : α) : (pput rows k v).map (fun r => (r.1, g r.2)) = pput (rows.map fun r => (r.1, g r.2)) k (g v) := by
  induction rows with
  | nil => rfl
  | cons p r ih =>
    obtain ⟨a, u⟩ := p; rw [List.map_cons]; unfold pput
    split
    · rfl
    · rw [List.map_cons, ih]
theorem pdel_map {α β : Type} (g : α → β) (rows : List (Int × α)) (k : Int) : (pdel rows k).map (fun r => (r.1, g r.2)) = pdel (rows.map fun r => (r.1, g r.2)) k := by
  induction rows with
  | nil => rfl
  | cons p r ih =>
    obtain ⟨a, u⟩ := p; rw [List.map_cons]; unfold pdel
    split
    · rfl
    · rw [List.map_cons, ih]
theorem pget_map {α β : Type} (g : α → β) (rows : List (Int × α)) (k : Int) : pget (rows.map fun r => (r.1, g r.2)) k = (pget rows k).map g := by
  induction rows with
  | nil => rfl
  | cons p r ih =>
    obtain ⟨a, u⟩ := p; rw [List.map_cons]; unfold pget
    split
    · rfl
    · exact ih
theorem keysUp_len {α : Type} (rows : List (Int × α)) : (keysUp rows).length = rows.length := by unfold keysUp; rw [List.length_mergeSort, List.length_map]
theorem keysUp_mem {α : Type} (rows : List (Int × α)) (k : Int) : k ∈ keysUp rows ↔ k ∈ rows.map Prod.fst := by unfold keysUp; exact List.mem_mergeSort
theorem keysUp_lt {α : Type} {rows : List (Int × α)} (hn : (rows.map Prod.fst).Nodup) : (keysUp rows).Pairwise (· < ·) := by
  have h1 : (keysUp rows).Pairwise fun a b => decide (a ≤ b) = true := List.pairwise_mergeSort (fun a b c h1 h2 => by simp only [decide_eq_true_eq] at *; omega) (fun a b => by simp only [Bool.or_eq_true, decide_eq_true_eq]; omega) _
  have h2 : (keysUp rows).Nodup := (List.mergeSort_perm _ _).nodup_iff.2 hn; refine (List.Pairwise.and h1 h2).imp ?_; rintro a b ⟨h, hne⟩
  simp only [decide_eq_true_eq] at h
  omega
theorem up_len : ∀ (l : List Int) (a b : Int), l.Pairwise (· < ·) → (∀ x ∈ l, a ≤ x ∧ x ≤ b) → (l.length : Int) ≤ 0 ∨ (l.length : Int) ≤ b - a + 1
  | [], _, _, _, _ => .inl (by simp)
  | x :: r, a, b, hp, h => by
    have hx := h x (List.mem_cons_self ..); rw [List.pairwise_cons] at hp; have ih := up_len r (x + 1) b hp.2 (fun y hy => ⟨by have := hp.1 y hy; omega, (h y (List.mem_cons_of_mem _ hy)).2⟩); rw [List.length_cons]; omega
end Go.Proofs.YtadgbifmiooikaaGreatX
namespace Go.Proofs.YtadgbifmiooikaaGreatX
set_option linter.unusedVariables false
open Go
inductive AV where
  | num (n : Int)
  | txt (b : ByteArray)
  | flg (t : Bool)
  | oth (v : Value)
def AV.v : AV → Value
  | .num n => .iface 3 (.int .i64 n)
  | .txt b => .iface 9 (.string b)
  | .flg t => .iface 4 (.bool t)
  | .oth v => v
def otherV : Value → Bool
  | .nilIface => true
  | .iface t _ => t != 3 && t != 9 && t != 4
  | _ => false
def AV.good (m : Nat) (o : Bool) : AV → Prop
  | .num n => i64ok n
  | .txt b => b.size ≤ m
  | .flg _ => True
  | .oth v => o = true ∧ otherV v = true
theorem AV.isI {m : Nat} {o : Bool} {a : AV} (h : a.good m o) : isIface a.v = true := by
  cases a with
  | oth v =>
    have := h.2
    cases v <;> simp [otherV] at this <;> rfl
  | _ => rfl
theorem AV.one {m : Nat} {o : Bool} {a : AV} (h : a.good m o) : a.v.oneCell' = true := by
  cases a with
  | oth v =>
    have := h.2
    cases v <;> simp [otherV] at this <;> rfl
  | _ => rfl
theorem AV.asB_num {m : Nat} {o : Bool} {a : AV} (h : a.good m o) (hb : asB 3 a.v = true) : ∃ n, a = .num n := by
  cases a with
  | num n => exact ⟨n, rfl⟩
  | txt b => exact absurd hb (by simp [AV.v, asB])
  | flg t => exact absurd hb (by simp [AV.v, asB])
  | oth v =>
    have h2 := h.2
    cases v <;> simp [otherV, asB, AV.v] at h2 hb
    exact absurd hb h2.1.1
theorem AV.asB_txt {m : Nat} {o : Bool} {a : AV} (h : a.good m o) (hb : asB 9 a.v = true) : ∃ b, a = .txt b := by
  cases a with
  | num n => exact absurd hb (by simp [AV.v, asB])
  | txt b => exact ⟨b, rfl⟩
  | flg t => exact absurd hb (by simp [AV.v, asB])
  | oth v =>
    have h2 := h.2
    cases v <;> simp [otherV, asB, AV.v] at h2 hb
    exact absurd hb h2.1.2
theorem AV.asB_flg {m : Nat} {o : Bool} {a : AV} (h : a.good m o) (hb : asB 4 a.v = true) : ∃ b, a = .flg b := by
  cases a with
  | num n => exact absurd hb (by simp [AV.v, asB])
  | txt b => exact absurd hb (by simp [AV.v, asB])
  | flg t => exact ⟨t, rfl⟩
  | oth v =>
    have h2 := h.2
    cases v <;> simp [otherV, asB, AV.v] at h2 hb
    exact absurd hb h2.2
theorem AV.asB_oth {a : AV} (h1 : asB 3 a.v = false) (h2 : asB 9 a.v = false) (h3 : asB 4 a.v = false) : ∃ v, a = .oth v := by
  cases a with
  | num n => exact absurd h1 (by simp [AV.v, asB])
  | txt b => exact absurd h2 (by simp [AV.v, asB])
  | flg t => exact absurd h3 (by simp [AV.v, asB])
  | oth v => exact ⟨v, rfl⟩
def be8 (n : Int) : List UInt8 := (List.range 8).map fun j => u8 ((IntKind.u64.wrap n).fdiv (2 ^ (8 * (7 - j))))
theorem be8_take (n : Int) {j : Nat} (h : j < 8) : (be8 n).take (j + 1) = (be8 n).take j ++ [u8 ((IntKind.u64.wrap n).fdiv (2 ^ (8 * (7 - j))))] := take_map_range _ 8 j h
theorem be8_length (n : Int) : (be8 n).length = 8 := by simp [be8]
def enc1 : AV → List UInt8
  | .num n => 105 :: be8 n
  | .txt b => 115 :: u8 b.size :: b.toList
  | .flg t => [if t then 116 else 102]
  | .oth _ => []
def enc1Ok : AV → Bool
  | .txt b => decide (b.size ≤ 255)
  | .oth _ => false
  | _ => true
def encA (av : List AV) : List UInt8 := av.flatMap enc1
def encOk (av : List AV) : Bool := av.all enc1Ok
abbrev RdA (I : Imm) (v : Value) (av : List AV) : Prop := RdL I 1 v av.length (av.map AV.v)
abbrev GrowA (v : Value) (av : List AV) (Lv : Own) : Prop := Grow 20 1 v av.length (av.map AV.v) Lv
theorem RdA.at {I : Imm} {v : Value} {av : List AV} {i : Int} (h : RdA I v av) (h0 : 0 ≤ i) (h1 : i < av.length) : I.cell? (slPtr v (i.toNat * 1)) = some (av[i.toNat]'(by omega)).v := by
  refine RdL.cell h ?_
  have : i.toNat < av.length := by omega
  simp [this]
theorem encOk_take {av : List AV} {k : Nat} (hk : k < av.length) (h : encOk (av.take k) = true) (h1 : enc1Ok av[k] = true) : encOk (av.take (k + 1)) = true := by
  unfold encOk at *; rw [List.take_add_one, List.all_append, h, List.getElem?_eq_getElem hk]
  simp [h1]
theorem encOk_no {av : List AV} {k : Nat} (hk : k < av.length) (h1 : enc1Ok av[k] = false) : encOk av = false := by
  unfold encOk; rw [List.all_eq_false]; exact ⟨av[k], List.getElem_mem _, by simp [h1]⟩
theorem encA_take {av : List AV} {k : Nat} (hk : k < av.length) : encA (av.take (k + 1)) = encA (av.take k) ++ enc1 av[k] := by
  unfold encA; rw [List.take_add_one, List.flatMap_append, List.getElem?_eq_getElem hk]
  simp
theorem enc1_le {a : AV} (h : enc1Ok a = true) : (enc1 a).length ≤ 257 := by
  cases a with
  | num n => simp [enc1, be8_length]
  | txt b =>
    have hb : b.toList.length = b.size := by rw [ByteArray.toList_eq]; rfl
    simp only [enc1Ok, decide_eq_true_eq] at h
    simp [enc1, hb]; omega
  | flg t => simp [enc1]
  | oth v => simp [enc1]
theorem encA_le : ∀ {av : List AV}, encOk av = true → (encA av).length ≤ av.length * 257
  | [], _ => by simp [encA]
  | a :: r, h => by
    have h1 : enc1Ok a = true ∧ encOk r = true := by simpa [encOk] using h
    have := enc1_le h1.1; have := encA_le h1.2
    simp only [encA, List.flatMap_cons, List.length_append, List.length_cons, Nat.add_mul, Nat.one_mul] at *
    omega
theorem GrowA.push {v : Value} {av : List AV} {a : AV} {Lv : Own} (h : Grow 20 1 v (av.length + 1) (av.map AV.v ++ [a.v]) Lv) : GrowA v (av ++ [a]) Lv := by
  unfold GrowA; rw [List.length_append, List.map_append]; exact h
theorem strOf_size (bs : List UInt8) : (strOf bs).size = bs.length := by
  have := size_toList (strOf bs); rw [strOf_toList] at this; exact this.symm
theorem toList_inj {a b : ByteArray} (h : a.toList = b.toList) : a = b := by
  rw [ByteArray.toList_eq, ByteArray.toList_eq] at h
  cases a; cases b
  congr 1
  exact Array.toList_inj.1 h
theorem good_encOk {m : Nat} {av : List AV} (h : ∀ a ∈ av, a.good m false) (hm : m ≤ 255) : encOk av = true := by
  unfold encOk; rw [List.all_eq_true]; intro a ha; have := h a ha
  cases a <;> simp [enc1Ok, AV.good] at *
  omega
theorem enc1_ne {m : Nat} {a : AV} (ha : a.good m false) : enc1 a ≠ [] := by
  cases a with
  | oth v => exact absurd ha.1 (by decide)
  | _ => simp [enc1]
end Go.Proofs.YtadgbifmiooikaaGreatX
namespace Go.Proofs.YtadgbifmiooikaaGreatX
set_option linter.unusedVariables false
open Go
def nstep (x : Int) (c : UInt8) : Int := bitop .or .u64 (IntKind.u64.wrap (x * 2 ^ 8)) (IntKind.u64.wrap (c.toNat : Int))
def num64 (bs : List UInt8) : Int := IntKind.i64.wrap (bs.foldl nstep 0)
def dec1 (b : List UInt8) : Option (AV × Nat) :=
  if bat b 0 = 116 ∨ bat b 0 = 102 then some (.flg (decide (bat b 0 = 116)), 1)
  else if bat b 0 = 105 ∧ 8 < b.length then some (.num (num64 ((b.drop 1).take 8)), 9)
  else if bat b 0 = 115 ∧ 1 < b.length ∧ 2 + bat b 1 ≤ b.length then some (.txt (strOf ((b.drop 2).take (bat b 1).toNat)), 2 + (bat b 1).toNat)
  else none
theorem dec1_flg {b : List UInt8} (h : bat b 0 = 116 ∨ bat b 0 = 102) : dec1 b = some (.flg (decide (bat b 0 = 116)), 1) := by unfold dec1; rw [if_pos h]
theorem dec1_num {b : List UInt8} (h0 : ¬ (bat b 0 = 116 ∨ bat b 0 = 102)) (h : bat b 0 = 105 ∧ 8 < b.length) : dec1 b = some (.num (num64 ((b.drop 1).take 8)), 9) := by unfold dec1; rw [if_neg h0, if_pos h]
theorem dec1_txt {b : List UInt8} (h0 : ¬ (bat b 0 = 116 ∨ bat b 0 = 102)) (h1 : ¬ (bat b 0 = 105 ∧ 8 < b.length)) (h : bat b 0 = 115 ∧ 1 < b.length ∧ 2 + bat b 1 ≤ b.length) :
    dec1 b = some (.txt (strOf ((b.drop 2).take (bat b 1).toNat)), 2 + (bat b 1).toNat) := by unfold dec1; rw [if_neg h0, if_neg h1, if_pos h]
theorem dec1_no {b : List UInt8} (h0 : ¬ (bat b 0 = 116 ∨ bat b 0 = 102)) (h1 : ¬ (bat b 0 = 105 ∧ 8 < b.length)) (h : ¬ (bat b 0 = 115 ∧ 1 < b.length ∧ 2 + bat b 1 ≤ b.length)) : dec1 b = none := by unfold dec1; rw [if_neg h0, if_neg h1, if_neg h]
theorem dec1_pos {b : List UInt8} {a : AV} {k : Nat} (h : dec1 b = some (a, k)) : 1 ≤ k := by
  unfold dec1 at h
  split at h
  · cases h; exact Nat.le_refl _
  · split at h
    · cases h; decide
    · split at h
      · cases h; omega
      · cases h
theorem dec1_le {b : List UInt8} (hb : 0 < b.length) {a : AV} {k : Nat} (h : dec1 b = some (a, k)) : k ≤ b.length := by
  unfold dec1 at h; have := bat_lt b 1
  split at h
  · cases h; exact hb
  · split at h
    · cases h; omega
    · split at h
      · cases h; omega
      · cases h
theorem fold_take {xs : List UInt8} {k : Nat} (hk : k < xs.length) : (xs.take (k + 1)).foldl nstep 0 = bitop .or .u64 (IntKind.u64.wrap ((xs.take k).foldl nstep 0 * 2 ^ 8)) (IntKind.u64.wrap (bat xs (k : Int))) := by
  rw [List.take_add_one, List.getElem?_eq_getElem hk, Option.toList_some, List.foldl_append]
  simp only [List.foldl_cons, List.foldl_nil, nstep]
  congr 2
  unfold bat
  simp [hk]
def decF : Nat → List UInt8 → Option (List AV)
  | 0, b => if b = [] then some [] else none
  | n + 1, b => if b = [] then some [] else match dec1 b with
    | none => none
    | some (a, k) => (decF n (b.drop k)).map (a :: ·)
theorem decF_enough : ∀ (n m : Nat) (b : List UInt8), b.length ≤ n → b.length ≤ m → decF n b = decF m b
  | 0, 0, b, h, h' => rfl
  | 0, m + 1, b, h, h' => by
    have : b = [] := List.eq_nil_of_length_eq_zero (by omega); subst this
    rfl
  | n + 1, 0, b, h, h' => by
    have : b = [] := List.eq_nil_of_length_eq_zero (by omega); subst this
    rfl
  | n + 1, m + 1, b, h, h' => by
    unfold decF
    by_cases hb : b = []
    · rw [if_pos hb, if_pos hb]
    · rw [if_neg hb, if_neg hb]
      cases hd : dec1 b with
      | none => rfl
      | some x =>
        obtain ⟨a, k⟩ := x; have hk := dec1_pos hd; have hpos : 0 < b.length := List.length_pos_iff.2 hb
        simp only []
        rw [decF_enough n m (b.drop k) (by rw [List.length_drop]; omega) (by rw [List.length_drop]; omega)]
def decA (b : List UInt8) : Option (List AV) := decF b.length b
theorem decA_nil : decA [] = some [] := rfl
theorem decA_step {b : List UInt8} (hb : 0 < b.length) : decA b = match dec1 b with
    | none => none
    | some (a, k) => (decA (b.drop k)).map (a :: ·) := by
  unfold decA; obtain ⟨n, hn⟩ : ∃ n, b.length = n + 1 := ⟨b.length - 1, by omega⟩; rw [hn]; rw [decF]; rw [if_neg (fun e => by rw [e] at hb; exact absurd hb (by decide))]
  cases hd : dec1 b with
  | none => rfl
  | some x =>
    obtain ⟨a, k⟩ := x; have hk := dec1_pos hd
    simp only []
    rw [decF_enough n (b.drop k).length (b.drop k) (by rw [List.length_drop]; omega) (Nat.le_refl _)]
theorem decA_some {b : List UInt8} (hb : 0 < b.length) {a : AV} {k : Nat} (hd : dec1 b = some (a, k)) : decA b = (decA (b.drop k)).map (a :: ·) := by rw [decA_step hb, hd]
theorem decA_none {b : List UInt8} (hb : 0 < b.length) (hd : dec1 b = none) : decA b = none := by rw [decA_step hb, hd]
theorem wrap64_ok (n : Int) : i64ok (IntKind.i64.wrap n) := by
  rw [IntKind.wrap_i64]; unfold i64ok; omega
theorem dec1_good {b : List UInt8} {a : AV} {k : Nat} (h : dec1 b = some (a, k)) : a.good 255 false := by
  unfold dec1 at h
  split at h
  · cases h; trivial
  · split at h
    · cases h; exact wrap64_ok _
    · split at h
      · cases h
        show (strOf _).size ≤ 255
        rw [strOf_size, List.length_take]; have := bat_lt b 1; omega
      · cases h
theorem nstep_eq {x : Int} (c : UInt8) (hx : 0 ≤ x) : nstep x c = (x * 256) % 18446744073709551616 + c.toNat := by
  unfold nstep; have hc := c.toNat_lt; rw [IntKind.wrap_u64, IntKind.wrap_u64]
  obtain ⟨A, hA⟩ : ∃ A : Nat, (x * 2 ^ 8) % 18446744073709551616 = ((2 ^ 8 * A : Nat) : Int) := by
    refine ⟨((x * 2 ^ 8) % 18446744073709551616 / 256).toNat, ?_⟩; rw [Int.natCast_mul, show (((2 ^ 8 : Nat)) : Int) = 256 from rfl]; omega
  have hA2 : 2 ^ 8 * A < 18446744073709551616 := by omega
  have hB : ((c.toNat : Int) % 18446744073709551616) = ((c.toNat : Nat) : Int) := by omega
  have e8 : x * 2 ^ 8 = x * 256 := by omega
  rw [hA, hB, ← e8, hA]
  show IntKind.u64.wrap (((BitVec.ofInt 64 ((2 ^ 8 * A : Nat) : Int)) ||| (BitVec.ofInt 64 ((c.toNat : Nat) : Int))).toNat : Int) = _
  rw [BitVec.ofInt_natCast, BitVec.ofInt_natCast, BitVec.toNat_or, BitVec.toNat_ofNat, BitVec.toNat_ofNat, Nat.mod_eq_of_lt (by omega), Nat.mod_eq_of_lt (by omega), ← Nat.two_pow_add_eq_or_of_lt (by omega) A, IntKind.wrap_u64]; omega
theorem num64_be8 {n : Int} (h : i64ok n) : num64 (be8 n) = n := by
  unfold num64 be8; unfold i64ok at h
  have fd : ∀ (x : Int) (n : Nat), x.fdiv (2 ^ n) = x / 2 ^ n := fun x n => Int.fdiv_eq_ediv_of_nonneg _ (Int.pow_nonneg (by decide))
  simp only [List.range_succ, List.range_zero, List.nil_append, List.map_cons, List.map_nil, List.cons_append, List.foldl_cons, List.foldl_nil, fd, IntKind.wrap_u64]
  simp only [Nat.reduceSub, Nat.reduceMul, Int.reducePow]
  obtain ⟨U, hU⟩ : ∃ U, n % 18446744073709551616 = U := ⟨_, rfl⟩; rw [hU]
  have st : ∀ (x D : Int), 0 ≤ x → nstep x (u8 D) = (x * 256) % 18446744073709551616 + D % 256 := fun x D hx => by rw [nstep_eq _ hx, u8_toNat]
  have k1 : nstep 0 (u8 (U / 72057594037927936)) = U / 72057594037927936 := by rw [st _ _ (by omega)]; omega
  rw [k1]
  have k2 : nstep (U / 72057594037927936) (u8 (U / 281474976710656)) = U / 281474976710656 := by rw [st _ _ (by omega)]; omega
  rw [k2]
  have k3 : nstep (U / 281474976710656) (u8 (U / 1099511627776)) = U / 1099511627776 := by rw [st _ _ (by omega)]; omega
  rw [k3]
  have k4 : nstep (U / 1099511627776) (u8 (U / 4294967296)) = U / 4294967296 := by rw [st _ _ (by omega)]; omega
  rw [k4]
  have k5 : nstep (U / 4294967296) (u8 (U / 16777216)) = U / 16777216 := by rw [st _ _ (by omega)]; omega
  rw [k5]
  have k6 : nstep (U / 16777216) (u8 (U / 65536)) = U / 65536 := by rw [st _ _ (by omega)]; omega
  rw [k6]
  have k7 : nstep (U / 65536) (u8 (U / 256)) = U / 256 := by rw [st _ _ (by omega)]; omega
  rw [k7]
  have k8 : nstep (U / 256) (u8 (U / 1)) = U := by rw [st _ _ (by omega)]; omega
  rw [k8, IntKind.wrap_i64]; omega
theorem strOf_toList' (b : ByteArray) : strOf b.toList = b := toList_inj (strOf_toList _)
theorem dec1_enc1 {m : Nat} (hm : m ≤ 255) {a : AV} (ha : a.good m false) (r : List UInt8) : dec1 (enc1 a ++ r) = some (a, (enc1 a).length) := by
  cases a with
  | num n =>
    have h0 : bat (enc1 (.num n) ++ r) 0 = 105 := rfl
    have hl : (enc1 (.num n) ++ r).length = 9 + r.length := by simp [enc1, be8_length]; omega
    rw [dec1_num (by rw [h0]; omega) ⟨h0, by omega⟩]
    have e : ((enc1 (.num n) ++ r).drop 1).take 8 = be8 n := by
      show (be8 n ++ r).take 8 = be8 n
      rw [List.take_append_of_le_length (by rw [be8_length]; omega), List.take_of_length_le (by rw [be8_length]; omega)]
    rw [e, num64_be8 ha]
    simp [enc1, be8_length]
  | txt s =>
    have hs : s.size ≤ m := ha; have h0 : bat (enc1 (.txt s) ++ r) 0 = 115 := rfl
    have h1 : bat (enc1 (.txt s) ++ r) 1 = s.size := by
      show ((u8 (s.size : Int)).toNat : Int) = _
      rw [u8_toNat]; omega
    have hl : (enc1 (.txt s) ++ r).length = 2 + s.size + r.length := by simp [enc1, size_toList]; omega
    rw [dec1_txt (by rw [h0]; omega) (by rw [h0]; omega) ⟨h0, by omega, by omega⟩, h1]
    have e : ((enc1 (.txt s) ++ r).drop 2).take ((s.size : Int)).toNat = s.toList := by
      show (s.toList ++ r).take s.size = s.toList
      rw [← size_toList, List.take_left]
    rw [e, strOf_toList']
    simp [enc1, size_toList]; omega
  | flg t =>
    cases t
    · have h0 : bat (enc1 (.flg false) ++ r) 0 = 102 := rfl; rw [dec1_flg (.inr h0), h0]
      rfl
    · have h0 : bat (enc1 (.flg true) ++ r) 0 = 116 := rfl; rw [dec1_flg (.inl h0), h0]
      rfl
  | oth v => exact absurd ha.1 (by decide)
theorem decA_encA {m : Nat} (hm : m ≤ 255) : ∀ {av : List AV}, (∀ x ∈ av, x.good m false) → decA (encA av) = some av
  | [], _ => rfl
  | a :: r, h => by
    have ha := h a (List.mem_cons_self ..); have hne := enc1_ne ha; have e : encA (a :: r) = enc1 a ++ encA r := rfl
    have hpos : 0 < (encA (a :: r)).length := by
      rw [e, List.length_append]; have := List.length_pos_iff.2 hne; omega
    rw [decA_some hpos (by rw [e]; exact dec1_enc1 hm ha _), e, List.drop_left, decA_encA hm (fun x hx => h x (List.mem_cons_of_mem _ hx))]
    rfl
end Go.Proofs.YtadgbifmiooikaaGreatX
