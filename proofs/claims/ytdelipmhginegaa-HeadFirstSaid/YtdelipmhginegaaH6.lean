/- Names a page may not say: what these come to. -/
import Derived.Test.YtdelipmhginegaaT
import Derived.Test.YtdelipmhginegaaH4
namespace Go.Proofs.YtdelipmhginegaaX
set_option linter.unusedVariables false
set_option linter.unusedSimpArgs false
open Go Go.RowKit Go.Proofs

/-- A slice of strings. -/
def RdS (I : Imm) (v : Value) (xs : List ByteArray) : Prop := RdL I 1 v xs.length (xs.map Value.string)
def sat (xs : List ByteArray) (i : Int) : ByteArray := xs.getD i.toNat ⟨#[]⟩
theorem RdS.at {I : Imm} {v : Value} {xs : List ByteArray} {i : Int} (h : RdS I v xs) (h0 : 0 ≤ i) (h1 : i < xs.length) : I.cell? (slPtr v (i.toNat * 1)) = some (.string (sat xs i)) := by
  refine RdL.cell h ?_
  have hi : i.toNat < xs.length := by omega
  rw [Nat.mul_one, List.getElem?_map, List.getElem?_eq_getElem hi]
  unfold sat
  simp [hi]
theorem RdS.mono {I I' : Imm} {v : Value} {xs : List ByteArray} (h : RdS I v xs) (hI : I.le I') : RdS I' v xs := RdL.mono hI h
theorem sat_get {xs : List ByteArray} {k : Nat} (hk : k < xs.length) : sat xs (k : Int) = xs[k] := by
  unfold sat
  simp [hk]
def inS (xs : List ByteArray) (n : ByteArray) : Bool := xs.any fun x => n.toList == x.toList
def preS (s p : ByteArray) : Bool := decide ((p.size : Int) ≤ s.size) && ((s.extract 0 p.size).toList == p.toList)
def forbN : List ByteArray := [⟨#[104, 111, 115, 116]⟩, ⟨#[111, 114, 105, 103, 105, 110]⟩, ⟨#[114, 101, 102, 101, 114, 101, 114]⟩, ⟨#[99, 111, 111, 107, 105, 101]⟩, ⟨#[99, 111, 110, 110, 101, 99, 116, 105, 111, 110]⟩, ⟨#[114, 97, 110, 103, 101]⟩, ⟨#[105, 102, 45, 114, 97, 110, 103, 101]⟩]
def secN : ByteArray := ⟨#[115, 101, 99, 45]⟩
def proxyN : ByteArray := ⟨#[112, 114, 111, 120, 121, 45]⟩
def forbL (x : ByteArray) : Bool := inS forbN x || (preS x secN || preS x proxyN)
def forbR (s : ByteArray) : Bool := forbL (strOf (lower s.toList))
set_option maxRecDepth 100000 in
set_option maxHeartbeats 1000000 in
theorem indexS_spec {w0 w : World} {I : Imm} {L : Own} (hst : St w0 w I L) {v : Value} {xs : List ByteArray} (hv : RdS I v xs) (n : ByteArray) (hl : xs.length ≤ 1000000) :
    Calls Try.prog 30 #[v, .string n] w fun e w' => ∃ r : Int, e = .returned (.int .i64 r) ∧ decide (0 ≤ r) = inS xs n ∧ St w0 w' I L := by
  refine enter Try.func30 rfl (N := 19) rfl rfl ?_
  simp only [List.zipIdx_cons, List.zipIdx_nil, List.map_cons, List.map_nil, Nat.zero_add, Nat.reduceAdd]
  have hle := Imm.le.refl I
  refine CW.seq ?_
  -- region 0
  refine CW.region ?_
  refine RW.op1 rfl (runs_assign rfl) ?_
  refine RW.done ?_
  refine AQ.next ?_
  refine CW.seq ?_
  refine CW.seq ?_
  -- region 1
  refine CW.region ?_
  refine RW.op1 rfl (runs_move rfl) ?_
  refine RW.op1 rfl (RdL.len Try.underlying23 rfl hv) ?_
  refine RW.op1 rfl (runs_move rfl) ?_
  refine RW.done ?_
  refine AQ.next ?_
  refine CW.block ?_
  -- loop 1
  refine CW.loop Nat (fun k w => St w0 w I L ∧ k ≤ xs.length ∧ ∀ x ∈ xs.take k, (n.toList == x.toList) = false) (fun k => [(0, v), (1, .string n), (7, .int .i64 (xs.length : Int)), (8, .int .i64 (k : Int))]) (fun k => xs.length - k) ⟨0, ⟨hst, Nat.zero_le _, by simp⟩, ⟨rfl, rfl, rfl, rfl, trivial⟩⟩ ?_
  rintro k w ⟨hstn, hk, hno⟩
  clear hst
  have hst := hstn
  clear hstn
  refine CW.seq ?_
  -- region 2
  refine CW.region ?_
  refine RW.op1 rfl (runs_lss rfl rfl) ?_
  refine RW.done ?_
  refine AQ.next ?_
  refine CW.seq ?_
  refine CW.cond rfl (fun hc9 => ?_) (fun hc9 => ?_)
  · have hcb9 := hc9
    try simp only [decide_eq_true_eq, decide_eq_false_iff_not] at hc9
    have hk1 : k < xs.length := by omega
    have hig := sat_get hk1
    refine CW.skip ?_
    refine AQ.next ?_
    refine CW.seq ?_
    refine CW.block ?_
    refine CW.seq ?_
    -- region 3
    refine CW.region ?_
    refine RW.op1 rfl (runs_move rfl) ?_
    refine RW.op1 rfl (runs_assign rfl) ?_
    refine RW.done ?_
    refine AQ.next ?_
    refine CW.seq ?_
    -- region 4
    refine CW.region ?_
    refine RW.op1 rfl (runs_move rfl) ?_
    refine RW.op1 rfl (runs_move rfl) ?_
    refine RW.op1 rfl (runs_move rfl) ?_
    refine RW.op1 rfl (RdL.indexAddr Try.underlying23 ti9 (by decide) rfl rfl hv (by omega)) ?_
    refine RW.op1 rfl (runs_load1 sc9 rfl (hst.cell_imm (RdS.at hv (by omega) (by omega)))) ?_
    refine RW.op1 rfl (runs_eqS rfl rfl) ?_
    refine RW.done ?_
    refine AQ.next ?_
    refine CW.cond rfl (fun hc16 => ?_) (fun hc16 => ?_)
    · have hcb16 := hc16
      try simp only [decide_eq_true_eq, decide_eq_false_iff_not] at hc16
      refine CW.seq ?_
      -- region 5
      refine CW.region ?_
      refine RW.op1 rfl (runs_move rfl) ?_
      refine RW.op1 rfl (runs_assign rfl) ?_
      refine RW.done ?_
      refine AQ.next ?_
      refine CW.ret ?_
      refine AQ.block_ret ?_
      refine AQ.past_ret ?_
      refine AQ.past_ret ?_
      refine AQ.block_ret ?_
      refine AQ.past_ret ?_
      refine AQ.ret1 rfl rfl ?_
      exact ⟨_, rfl, by rw [decide_eq_true (show (0 : Int) ≤ k by omega)]; symm; unfold inS; rw [List.any_eq_true]; exact ⟨_, List.getElem_mem hk1, by rw [← hig]; exact hcb16⟩, hst⟩
    · have hcb16 := hc16
      try simp only [decide_eq_true_eq, decide_eq_false_iff_not] at hc16
      refine CW.skip ?_
      refine AQ.block_normal ?_
      refine AQ.next ?_
      -- region 6
      refine CW.region ?_
      refine RW.op1 rfl (runs_add rfl rfl (by omega)) ?_
      refine RW.op1 rfl (runs_move rfl) ?_
      refine RW.done ?_
      exact AQ.again (k + 1) ⟨hst, by omega, take_more hno hk1 (by rw [← hig]; exact hcb16)⟩ ⟨rfl, rfl, rfl, rfl, trivial⟩ (by omega)
  · have hcb9 := hc9
    try simp only [decide_eq_true_eq, decide_eq_false_iff_not] at hc9
    skip
    refine CW.exit ?_
    refine AQ.past_exit ?_
    refine AQ.past_exit ?_
    refine AQ.block_hit ?_
    refine AQ.next ?_
    refine CW.seq ?_
    -- region 7
    refine CW.region ?_
    refine RW.op1 rfl (runs_assign rfl) ?_
    refine RW.done ?_
    refine AQ.next ?_
    refine CW.ret ?_
    refine AQ.ret1 rfl rfl ?_
    refine ⟨_, rfl, ?_, hst⟩
    rw [List.take_of_length_le (by omega)] at hno
    rw [decide_eq_false (show ¬ (0 : Int) ≤ -1 by decide)]
    symm
    unfold inS
    rw [List.any_eq_false]
    intro x hx
    rw [hno x hx]
    decide
set_option maxRecDepth 100000 in
set_option maxHeartbeats 1000000 in
theorem containsS_spec {w0 w : World} {I : Imm} {L : Own} (hst : St w0 w I L) {v : Value} {xs : List ByteArray} (hv : RdS I v xs) (n : ByteArray) (hl : xs.length ≤ 1000000) :
    Calls Try.prog 26 #[v, .string n] w fun e w' => e = .returned (.bool (inS xs n)) ∧ St w0 w' I L := by
  refine enter Try.func26 rfl (N := 9) rfl rfl ?_
  simp only [List.zipIdx_cons, List.zipIdx_nil, List.map_cons, List.map_nil, Nat.zero_add, Nat.reduceAdd]
  have hle := Imm.le.refl I
  refine CW.seq ?_
  -- region 0
  refine CW.region ?_
  refine RW.op1 rfl (runs_assign rfl) ?_
  refine RW.done ?_
  refine AQ.next ?_
  refine CW.seq ?_
  -- region 1
  refine CW.region ?_
  refine RW.op1 rfl (runs_move rfl) ?_
  refine RW.op1 rfl (runs_move rfl) ?_
  refine RW.call rfl call30 rfl rfl (indexS_spec hst hv n hl) ?_
  rintro e w ⟨r, rfl, hr, hstn⟩
  clear hst
  have hst := hstn
  clear hstn
  refine ⟨_, rfl, ?_⟩
  refine RW.op1 rfl (runs_geq rfl rfl) ?_
  refine RW.op1 rfl (runs_assign rfl) ?_
  refine RW.done ?_
  refine AQ.next ?_
  refine CW.ret ?_
  refine AQ.ret1 rfl rfl ?_
  exact ⟨by rw [hr], hst⟩
set_option maxRecDepth 100000 in
set_option maxHeartbeats 1000000 in
theorem hasPrefix0_spec {w0 w : World} {I : Imm} {L : Own} (hst : St w0 w I L) (s p : ByteArray) (hs : s.size ≤ 9223372036854775807) (hp : p.size ≤ 9223372036854775807) :
    Calls Try.prog 31 #[.string s, .string p] w fun e w' => e = .returned (.bool (preS s p)) ∧ St w0 w' I L := by
  refine enter Try.func31 rfl (N := 18) rfl rfl ?_
  simp only [List.zipIdx_cons, List.zipIdx_nil, List.map_cons, List.map_nil, Nat.zero_add, Nat.reduceAdd]
  have hle := Imm.le.refl I
  refine CW.seq ?_
  -- region 0
  refine CW.region ?_
  refine RW.op1 rfl (runs_assign rfl) ?_
  refine RW.done ?_
  refine AQ.next ?_
  refine CW.seq ?_
  -- region 1
  refine CW.region ?_
  refine RW.op1 rfl (runs_move rfl) ?_
  refine RW.op1 rfl (runs_lenS Try.underlying9 rfl) ?_
  refine RW.op1 rfl (runs_move rfl) ?_
  refine RW.op1 rfl (runs_lenS Try.underlying9 rfl) ?_
  refine RW.op1 rfl (runs_geq rfl rfl) ?_
  refine RW.op1 rfl (runs_move rfl) ?_
  refine RW.split (t := 10) rfl (fun hb10 => ?_) (fun hb10 => ?_)
  · have hb10p := hb10
    try simp only [decide_eq_true_eq, decide_eq_false_iff_not] at hb10p
    refine RW.on_guard rfl rfl rfl rfl hb10 ?_
    refine RW.op1 rfl (runs_move rfl) ?_
    refine RW.on_guard rfl rfl rfl rfl hb10 ?_
    refine RW.op1 rfl (runs_move rfl) ?_
    refine RW.on_guard rfl rfl rfl rfl hb10 ?_
    refine RW.op1 rfl (runs_lenS Try.underlying9 rfl) ?_
    refine RW.on_guard rfl rfl rfl rfl hb10 ?_
    refine RW.op1 rfl (runs_sliceS_h Try.underlying9 rfl rfl (by omega)) ?_
    refine RW.on_guard rfl rfl rfl rfl hb10 ?_
    refine RW.op1 rfl (runs_move rfl) ?_
    refine RW.on_guard rfl rfl rfl rfl hb10 ?_
    refine RW.op1 rfl (runs_eqS rfl rfl) ?_
    refine RW.op1 rfl (runs_pick_true rfl hb10 rfl) ?_
    refine RW.op1 rfl (runs_assign rfl) ?_
    refine RW.done ?_
    refine AQ.next ?_
    refine CW.ret ?_
    refine AQ.ret1 rfl rfl ?_
    refine ⟨?_, hst⟩
    unfold preS
    simp only [hb10p, decide_true, Bool.true_and, Int.toNat_natCast]
  · have hb10p := hb10
    try simp only [decide_eq_true_eq, decide_eq_false_iff_not] at hb10p
    refine RW.off_guard rfl rfl rfl rfl hb10 ?_
    refine RW.off_guard rfl rfl rfl rfl hb10 ?_
    refine RW.off_guard rfl rfl rfl rfl hb10 ?_
    refine RW.off_guard rfl rfl rfl rfl hb10 ?_
    refine RW.off_guard rfl rfl rfl rfl hb10 ?_
    refine RW.off_guard rfl rfl rfl rfl hb10 ?_
    refine RW.op1 rfl (runs_pick_false rfl hb10 rfl) ?_
    refine RW.op1 rfl (runs_assign rfl) ?_
    refine RW.done ?_
    refine AQ.next ?_
    refine CW.ret ?_
    refine AQ.ret1 rfl rfl ?_
    refine ⟨?_, hst⟩
    unfold preS
    simp only [hb10p, decide_false, Bool.false_and]
set_option maxRecDepth 100000 in
set_option maxHeartbeats 1000000 in
theorem hasPrefix_spec {w0 w : World} {I : Imm} {L : Own} (hst : St w0 w I L) (s p : ByteArray) (hs : s.size ≤ 9223372036854775807) (hp : p.size ≤ 9223372036854775807) :
    Calls Try.prog 27 #[.string s, .string p] w fun e w' => e = .returned (.bool (preS s p)) ∧ St w0 w' I L := by
  refine enter Try.func27 rfl (N := 8) rfl rfl ?_
  simp only [List.zipIdx_cons, List.zipIdx_nil, List.map_cons, List.map_nil, Nat.zero_add, Nat.reduceAdd]
  have hle := Imm.le.refl I
  refine CW.seq ?_
  -- region 0
  refine CW.region ?_
  refine RW.op1 rfl (runs_assign rfl) ?_
  refine RW.done ?_
  refine AQ.next ?_
  refine CW.seq ?_
  -- region 1
  refine CW.region ?_
  refine RW.op1 rfl (runs_move rfl) ?_
  refine RW.op1 rfl (runs_move rfl) ?_
  refine RW.call rfl call31 rfl rfl (hasPrefix0_spec hst s p hs hp) ?_
  rintro e w ⟨rfl, hstn⟩
  clear hst
  have hst := hstn
  clear hstn
  refine ⟨_, rfl, ?_⟩
  refine RW.op1 rfl (runs_assign rfl) ?_
  refine RW.done ?_
  refine AQ.next ?_
  refine CW.ret ?_
  refine AQ.ret1 rfl rfl ?_
  exact ⟨rfl, hst⟩
set_option maxRecDepth 100000 in
set_option maxHeartbeats 1000000 in
theorem forbidden_spec {w0 w : World} {I : Imm} {L : Own} (hst : St w0 w I L) (s : ByteArray) (hs : s.size ≤ 9223372036854775807) :
    Calls Try.prog 21 #[.string s] w fun e w' => ∃ I', Imm.le I I' ∧ e = .returned (.bool (forbR s)) ∧ St w0 w' I' L := by
  refine enter Try.func21 rfl (N := 17) rfl rfl ?_
  simp only [List.zipIdx_cons, List.zipIdx_nil, List.map_cons, List.map_nil, Nat.zero_add, Nat.reduceAdd]
  have hle := Imm.le.refl I
  refine CW.seq ?_
  -- region 0
  refine CW.region ?_
  refine RW.op1 rfl (runs_assign rfl) ?_
  refine RW.done ?_
  refine AQ.next ?_
  refine CW.seq ?_
  -- region 1
  refine CW.region ?_
  refine RW.op1 rfl (runs_move rfl) ?_
  refine RW.call rfl call20 rfl rfl (lower_spec hst s hs) ?_
  rintro e w ⟨I1, hI1, rfl, hstn⟩
  clear hst
  have hst := hstn
  clear hstn
  have hsz : (strOf (lower s.toList)).size ≤ 9223372036854775807 := by
    show (lower s.toList).toArray.size ≤ _
    rw [List.size_toArray]; unfold lower; rw [List.length_map, size_toList]; exact hs
  replace hle := hle.trans hI1
  refine ⟨_, rfl, ?_⟩
  refine RW.op1 rfl (runs_assign rfl) ?_
  refine RW.done ?_
  refine AQ.next ?_
  refine CW.seq ?_
  -- region 2
  refine CW.region ?_
  refine RW.opE rfl (runs_lit1R Try.underlying23 ti9 (by decide) rfl rfl rfl (by simp [Value.oneCell']) hst) ?_
  rintro u2 w ⟨I2, hI2, hstn, h2⟩
  clear hst
  have hst := hstn
  clear hstn
  replace hle := hle.trans hI2
  have hF : RdS _ u2 forbN := h2
  refine RW.op1 rfl (runs_move rfl) ?_
  refine RW.call rfl call26 rfl rfl (containsS_spec hst hF (strOf (lower s.toList)) (by decide)) ?_
  rintro e w ⟨rfl, hstn⟩
  clear hst
  have hst := hstn
  clear hstn
  refine ⟨_, rfl, ?_⟩
  refine RW.op1 rfl (runs_move rfl) ?_
  refine RW.split (t := 9) rfl (fun hb9 => ?_) (fun hb9 => ?_)
  · have hb9p := hb9
    try simp only [decide_eq_true_eq, decide_eq_false_iff_not] at hb9p
    refine RW.off_guard rfl rfl rfl rfl hb9 ?_
    refine RW.off_guard rfl rfl rfl rfl hb9 ?_
    refine RW.op1 rfl (runs_pick_true rfl hb9 rfl) ?_
    refine RW.op1 rfl (runs_move rfl) ?_
    refine RW.off_guard rfl rfl rfl rfl rfl ?_
    refine RW.off_guard rfl rfl rfl rfl rfl ?_
    refine RW.op1 rfl (runs_pick_true rfl rfl rfl) ?_
    refine RW.op1 rfl (runs_assign rfl) ?_
    refine RW.done ?_
    refine AQ.next ?_
    refine CW.ret ?_
    refine AQ.ret1 rfl rfl ?_
    refine ⟨_, hle, ?_, hst⟩
    unfold forbR forbL
    first
      | (rw [show inS forbN (strOf (lower s.toList)) = true by assumption]; rfl)
      | (rw [show inS forbN (strOf (lower s.toList)) = false by assumption, show preS (strOf (lower s.toList)) secN = true by assumption]; rfl)
      | (rw [show inS forbN (strOf (lower s.toList)) = false by assumption, show preS (strOf (lower s.toList)) secN = false by assumption]; rfl)
  · have hb9p := hb9
    try simp only [decide_eq_true_eq, decide_eq_false_iff_not] at hb9p
    refine RW.on_guard rfl rfl rfl rfl hb9 ?_
    refine RW.op1 rfl (runs_move rfl) ?_
    refine RW.on_guard rfl rfl rfl rfl hb9 ?_
    refine RW.call rfl call27 rfl rfl (hasPrefix_spec hst (strOf (lower s.toList)) secN hsz (by decide)) ?_
    rintro e w ⟨rfl, hstn⟩
    clear hst
    have hst := hstn
    clear hstn
    refine ⟨_, rfl, ?_⟩
    refine RW.op1 rfl (runs_pick_false rfl hb9 rfl) ?_
    refine RW.op1 rfl (runs_move rfl) ?_
    refine RW.split (t := 13) rfl (fun hb13 => ?_) (fun hb13 => ?_)
    · have hb13p := hb13
      try simp only [decide_eq_true_eq, decide_eq_false_iff_not] at hb13p
      refine RW.off_guard rfl rfl rfl rfl hb13 ?_
      refine RW.off_guard rfl rfl rfl rfl hb13 ?_
      refine RW.op1 rfl (runs_pick_true rfl hb13 rfl) ?_
      refine RW.op1 rfl (runs_assign rfl) ?_
      refine RW.done ?_
      refine AQ.next ?_
      refine CW.ret ?_
      refine AQ.ret1 rfl rfl ?_
      refine ⟨_, hle, ?_, hst⟩
      unfold forbR forbL
      first
        | (rw [show inS forbN (strOf (lower s.toList)) = true by assumption]; rfl)
        | (rw [show inS forbN (strOf (lower s.toList)) = false by assumption, show preS (strOf (lower s.toList)) secN = true by assumption]; rfl)
        | (rw [show inS forbN (strOf (lower s.toList)) = false by assumption, show preS (strOf (lower s.toList)) secN = false by assumption]; rfl)
    · have hb13p := hb13
      try simp only [decide_eq_true_eq, decide_eq_false_iff_not] at hb13p
      refine RW.on_guard rfl rfl rfl rfl hb13 ?_
      refine RW.op1 rfl (runs_move rfl) ?_
      refine RW.on_guard rfl rfl rfl rfl hb13 ?_
      refine RW.call rfl call27 rfl rfl (hasPrefix_spec hst (strOf (lower s.toList)) proxyN hsz (by decide)) ?_
      rintro e w ⟨rfl, hstn⟩
      clear hst
      have hst := hstn
      clear hstn
      refine ⟨_, rfl, ?_⟩
      refine RW.op1 rfl (runs_pick_false rfl hb13 rfl) ?_
      refine RW.op1 rfl (runs_assign rfl) ?_
      refine RW.done ?_
      refine AQ.next ?_
      refine CW.ret ?_
      refine AQ.ret1 rfl rfl ?_
      refine ⟨_, hle, ?_, hst⟩
      unfold forbR forbL
      first
        | (rw [show inS forbN (strOf (lower s.toList)) = true by assumption]; rfl)
        | (rw [show inS forbN (strOf (lower s.toList)) = false by assumption, show preS (strOf (lower s.toList)) secN = true by assumption]; rfl)
        | (rw [show inS forbN (strOf (lower s.toList)) = false by assumption, show preS (strOf (lower s.toList)) secN = false by assumption]; rfl)
theorem forb_host : forbR ⟨#[72, 111, 115, 116]⟩ = true := by
  unfold forbR
  rw [ByteArray.toList_eq]
  unfold forbL inS preS
  simp only [ByteArray.toList_eq]
  rfl
theorem forb_hosts : forbR ⟨#[72, 111, 115, 116, 115]⟩ = false := by
  unfold forbR
  rw [ByteArray.toList_eq]
  unfold forbL inS preS
  simp only [ByteArray.toList_eq]
  rfl
set_option maxRecDepth 100000 in
set_option maxHeartbeats 1000000 in
theorem wakes08_spec {w0 w : World} {I : Imm} {L : Own} (hst : St w0 w I L) :
    Calls Try.prog 10 #[] w fun e w' => ∃ I', Imm.le I I' ∧ e = .returned (.bool true) ∧ St w0 w' I' L := by
  refine enter Try.func10 rfl (N := 6) rfl rfl ?_
  simp only [List.zipIdx_cons, List.zipIdx_nil, List.map_cons, List.map_nil, Nat.zero_add, Nat.reduceAdd]
  have hle := Imm.le.refl I
  refine CW.seq ?_
  -- region 0
  refine CW.region ?_
  refine RW.op1 rfl (runs_assign rfl) ?_
  refine RW.done ?_
  refine AQ.next ?_
  refine CW.seq ?_
  -- region 1
  refine CW.region ?_
  refine RW.call rfl call21 rfl rfl (forbidden_spec hst ⟨#[72, 111, 115, 116]⟩ (by decide)) ?_
  rintro e w ⟨I1, hI1, rfl, hstn⟩
  clear hst
  have hst := hstn
  clear hstn
  replace hle := hle.trans hI1
  refine ⟨_, rfl, ?_⟩
  refine RW.op1 rfl (runs_move rfl) ?_
  have hk2 := forb_host
  refine RW.on_guard rfl rfl rfl rfl hk2 ?_
  refine RW.call rfl call21 rfl rfl (forbidden_spec hst ⟨#[72, 111, 115, 116, 115]⟩ (by decide)) ?_
  rintro e w ⟨I2, hI2, rfl, hstn⟩
  clear hst
  have hst := hstn
  clear hstn
  replace hle := hle.trans hI2
  refine ⟨_, rfl, ?_⟩
  refine RW.on_guard rfl rfl rfl rfl hk2 ?_
  refine RW.op1 rfl (runs_not rfl) ?_
  refine RW.op1 rfl (runs_pick_true rfl hk2 rfl) ?_
  refine RW.op1 rfl (runs_assign rfl) ?_
  refine RW.done ?_
  refine AQ.next ?_
  refine CW.ret ?_
  refine AQ.ret1 rfl rfl ?_
  exact ⟨_, hle, by rw [forb_hosts]; rfl, hst⟩
end Go.Proofs.YtdelipmhginegaaX
