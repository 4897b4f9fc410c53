/- Parts of a proof, joined: walks through the program's functions and their laws, in the order in which they need each other. -/
import Derived.Test.YtlmmpcdjkpibcaaGreatPYb
import Derived.Test.YtlmmpcdjkpibcaaGreatPYj
namespace Go.Proofs.YtlmmpcdjkpibcaaGreatX
set_option linter.unusedVariables false
set_option linter.unusedSimpArgs false
open Go Go.RowKit Go.Proofs
theorem wrap_ok (n : Int) : i64ok (IntKind.i64.wrap n) := by rw [IntKind.wrap_i64]; unfold i64ok; omega
theorem RdH.one {I : Imm} {v : Value} {hs : List HRow} (h : RdH I v hs) : v.oneCell' = true := by
  obtain ⟨_, _, A, c, rfl, _, _⟩ := h
  rfl
theorem req_one {me ur bo : ByteArray} {mo cr : Int} {vh : Value} (h : vh.oneCell' = true) : [Value.string me, .string ur, vh, .string bo, .int .i64 mo, .int .i64 cr].all (·.oneCell') = true := by
  simp only [List.all_cons, h, List.all_nil]
  rfl
def urlsL : List ByteArray := [⟨#[104, 116, 116, 112, 58, 47, 47, 97, 46, 98, 47]⟩, ⟨#[104, 116, 116, 112, 115, 58, 47, 47, 97, 46, 98, 47]⟩, ⟨#[104, 116, 116, 112, 115, 58, 47, 47, 97, 46, 98, 47, 120]⟩, ⟨#[104, 116, 116, 112, 58, 47, 47, 97, 46, 98, 47, 120]⟩, ⟨#[104, 116, 116, 112, 115, 58, 47, 47, 99, 46, 100, 47]⟩, ⟨#[104, 116, 116, 112, 115, 58, 47, 47, 99, 46, 100, 47, 112, 63, 113]⟩, ⟨#[104, 116, 116, 112, 115, 58, 47, 47, 99, 46, 100, 58, 56, 47]⟩, ⟨#[104, 116, 116, 112, 58, 47, 47, 99, 46, 100, 47]⟩, ⟨#[104, 116, 116, 112, 115, 58, 47, 47, 115, 46, 99, 46, 100, 47, 121]⟩, ⟨#[104, 116, 116, 112, 58, 47, 47, 108, 111, 99, 97, 108, 104, 111, 115, 116, 47, 108]⟩, ⟨#[104, 116, 116, 112, 115, 58, 47, 47, 97, 46, 98, 47, 122]⟩, ⟨#[104, 116, 116, 112, 115, 58, 47, 47, 97, 46, 98, 58, 56, 47]⟩]
theorem urlsL_sz : ∀ x ∈ urlsL, x.size ≤ 60 := by decide
def oddC : List ByteArray := [⟨#[]⟩, ⟨#[97, 46, 98]⟩, ⟨#[47, 120]⟩, ⟨#[47, 47, 99, 46, 100, 47, 120]⟩, ⟨#[104, 116, 116, 112, 58, 47, 97, 46, 98]⟩, ⟨#[104, 116, 116, 112, 58, 47, 47]⟩, ⟨#[72, 84, 84, 80, 58, 47, 47, 65, 46, 66, 58, 56, 48, 47, 120]⟩, ⟨#[104, 116, 116, 112, 115, 58, 47, 47, 97, 46, 98, 58, 52, 52, 51]⟩, ⟨#[104, 116, 116, 112, 58, 47, 47, 97, 46, 98, 58, 52, 52, 51]⟩, ⟨#[104, 116, 116, 112, 58, 47, 47, 97, 46, 98, 58, 57, 57, 57, 57, 57]⟩, ⟨#[104, 116, 116, 112, 58, 47, 47, 97, 46, 98, 58]⟩, ⟨#[104, 116, 116, 112, 58, 47, 47, 97, 46, 98, 58, 48, 47]⟩, ⟨#[104, 116, 116, 112, 58, 47, 47, 97, 46, 46, 98, 47]⟩, ⟨#[104, 116, 116, 112, 58, 47, 47, 46, 97, 47]⟩, ⟨#[104, 116, 116, 112, 58, 47, 47, 97, 46, 47]⟩, ⟨#[104, 116, 116, 112, 58, 47, 47, 97, 95, 98, 47]⟩, ⟨#[104, 116, 116, 112, 58, 47, 47, 117, 64, 97, 46, 98, 47]⟩, ⟨#[32, 104, 116, 116, 112, 58, 47, 47, 97, 46, 98, 47, 195, 169, 32]⟩, ⟨#[104, 116, 116, 112, 58, 47, 47, 97, 46, 98, 47, 37, 122, 122]⟩, ⟨#[104, 116, 116, 112, 58, 47, 47, 97, 46, 98, 47, 97, 32, 98, 63, 99, 32, 100, 35, 101]⟩, ⟨#[104, 116, 116, 112, 58, 47, 47, 97, 46, 98, 63, 120]⟩, ⟨#[104, 116, 116, 112, 58, 47, 47, 97, 46, 98, 35, 102]⟩, ⟨#[104, 116, 116, 112, 58, 47, 47, 97, 46, 98, 47, 46, 47, 97, 47, 46, 46, 47, 98, 47, 46]⟩, ⟨#[104, 116, 116, 112, 58, 47, 47, 97, 46, 98, 47, 46, 46]⟩, ⟨#[104, 116, 116, 112, 58, 47, 47, 97, 46, 98, 47, 47, 46, 46]⟩, ⟨#[104, 116, 116, 112, 58, 47, 47, 97, 46, 98, 47, 97, 47, 47, 46, 46]⟩, ⟨#[102, 116, 112, 58, 47, 47, 97, 46, 98, 47]⟩, ⟨#[104, 116, 116, 112, 115, 58, 47, 47, 97, 98, 99, 100, 101, 102, 103, 104, 105, 106, 107, 108, 109, 110, 111, 112, 113, 114, 115, 116, 117, 47]⟩, ⟨#[104, 116, 116, 112, 115, 58, 47, 47, 97, 46, 98, 47, 48, 49, 50, 51, 52, 53, 54, 55, 56, 57, 48, 49, 50, 51, 52, 53, 54, 55, 56, 57, 48, 49, 50, 51, 52, 53, 54, 55]⟩, ⟨#[104, 116, 116, 112, 58, 47, 47, 97, 46, 98, 47, 48, 49, 50, 51, 52, 53, 54, 55, 56, 57, 48, 49, 50, 51, 52, 53, 54, 55, 56, 57, 48, 49, 50, 51, 52, 53, 54, 55, 56, 57, 48, 49]⟩, ⟨#[104, 116, 116, 112, 58, 47, 47, 97, 46, 98, 47, 63]⟩, ⟨#[104, 116, 116, 112, 58, 47, 47, 97, 46, 98, 47, 63, 63]⟩, ⟨#[104, 116, 116, 112, 58, 47, 47, 97, 46, 98, 47, 97, 63, 98, 47, 46, 46, 47, 99]⟩, ⟨#[104, 116, 116, 112, 115, 58, 47, 47, 99, 46, 100, 47, 46, 46, 47, 46, 46, 47, 47, 120]⟩]
theorem oddC_sz : ∀ x ∈ oddC, x.size ≤ 60 := by decide
def srcC : List ByteArray := [⟨#[]⟩, ⟨#[39, 115, 101, 108, 102, 39]⟩, ⟨#[42]⟩, ⟨#[39, 110, 111, 110, 101, 39]⟩, ⟨#[104, 116, 116, 112, 115, 58]⟩, ⟨#[104, 116, 116, 112, 58]⟩, ⟨#[99, 46, 100]⟩, ⟨#[42, 46, 99, 46, 100]⟩, ⟨#[104, 116, 116, 112, 115, 58, 47, 47, 99, 46, 100]⟩, ⟨#[104, 116, 116, 112, 58, 47, 47, 99, 46, 100, 58, 42]⟩, ⟨#[99, 46, 100, 58, 56]⟩, ⟨#[97, 46, 98, 58, 56]⟩, ⟨#[108, 111, 99, 97, 108, 104, 111, 115, 116]⟩, ⟨#[39, 83, 69, 76, 70, 39, 32, 67, 46, 68]⟩, ⟨#[97, 46, 98, 32, 99, 46, 100]⟩, ⟨#[104, 116, 116, 112, 115, 58, 32, 39, 115, 101, 108, 102, 39]⟩, ⟨#[39, 110, 111, 110, 101, 39, 32, 42]⟩, ⟨#[104, 116, 116, 112, 58, 47, 47]⟩, ⟨#[99, 46, 100, 58]⟩, ⟨#[99, 46, 100, 58, 120]⟩, ⟨#[42, 46]⟩, ⟨#[42, 46, 42, 46, 100]⟩, ⟨#[97, 46, 98, 58, 57, 57, 57, 57, 57]⟩, ⟨#[104, 116, 116, 112, 58, 56, 48]⟩, ⟨#[32, 32]⟩, ⟨#[32, 99, 46, 100, 32, 32, 97, 46, 98, 32]⟩, ⟨#[104, 116, 116, 112, 115, 58, 47, 47, 99, 46, 100, 47]⟩, ⟨#[115, 46, 99, 46, 100]⟩, ⟨#[99, 46, 100, 58, 52, 52, 51, 32, 97, 46, 98, 58, 56, 48]⟩]
def metsL : List ByteArray := [⟨#[71, 69, 84]⟩, ⟨#[71, 69, 84]⟩, ⟨#[80, 79, 83, 84]⟩, ⟨#[71, 69, 84]⟩, ⟨#[80, 85, 84]⟩, ⟨#[72, 69, 65, 68]⟩, ⟨#[68, 69, 76, 69, 84, 69]⟩, ⟨#[80, 79, 83, 84]⟩]
theorem metsL_sz : ∀ x ∈ metsL, x.size ≤ 60 := by decide
def metoL : List ByteArray := [⟨#[]⟩, ⟨#[103, 101, 116]⟩, ⟨#[84, 82, 65, 67, 69]⟩, ⟨#[67, 79, 78, 78, 69, 67, 84]⟩, ⟨#[79, 80, 84, 73, 79, 78, 83]⟩, ⟨#[71, 32, 84]⟩, ⟨#[]⟩]
theorem metoL_sz : ∀ x ∈ metoL, x.size ≤ 60 := by decide
theorem srcC_ok (k : Nat) (hk : k < 3) : CspOk (sat (srcC ++ [ByteArray.mk #[]]) (k : Int)) := by
  rcases (show k = 0 ∨ k = 1 ∨ k = 2 by omega) with rfl | rfl | rfl
  · exact .inl rfl
  · exact .inr (.inl rfl)
  · exact .inr (.inr rfl)
theorem within_small {k n : Int} (h0 : 0 ≤ k) (h1 : k < n) : within k n = k := by
  unfold within; rw [if_neg (by omega)]; exact Int.emod_eq_of_lt h0 h1
set_option maxRecDepth 100000 in
set_option maxHeartbeats 1000000 in
theorem at_spec18 {w0 w : World} {I : Imm} {L : Own} (hst : St w0 w I L) (n : Int) (hn : i64ok n) {v : Value} {l : List ByteArray} (hl : RdS I v l) (h0 : 0 < l.length) (h1 : l.length ≤ 1000) :
    Calls Tryz.prog 24 #[.int .i64 n, v] w fun e w' => ∃ x, x ∈ l ∧ e = .returned (.string x) ∧ St w0 w' I L := by
  refine enter Tryz.func24 rfl (N := 12) rfl rfl ?_
  simp only [List.zipIdx_cons, List.zipIdx_nil, List.map_cons, List.map_nil, Nat.zero_add, Nat.reduceAdd]
  have hle := Imm.le.refl I; refine CW.seq ?_; refine CW.region ?_; refine RW.op1 rfl (runs_assign rfl) ?_; refine RW.done ?_; refine AQ.next ?_; refine CW.seq ?_; refine CW.region ?_; refine RW.op1 rfl (runs_move rfl) ?_; refine RW.op1 rfl (runs_move rfl) ?_; refine RW.op1 rfl (runs_move rfl) ?_; refine RW.op1 rfl (RdL.len Tryz.underlying65 rfl hl) ?_; refine RW.call rfl call6 rfl rfl (within_spec hst (v := n) (n := (l.length : Int)) hn (by unfold i64ok; omega)) ?_; rintro e w ⟨rfl, hstn⟩; clear hst; have hst := hstn; clear hstn; have r0 := within_range n (l.length : Int); have r0t := r0.2 (by omega); obtain ⟨j, hj⟩ : ∃ j : Nat, within n (l.length : Int) = (j : Int) := ⟨(within n (l.length : Int)).toNat, by omega⟩; rw [hj]; rw [hj] at r0 r0t
  have hj1 : j < l.length := by omega
  obtain ⟨x, hx⟩ : ∃ x, l[j] = x := ⟨_, rfl⟩; refine ⟨_, rfl, ?_⟩; refine RW.op1 rfl (RdL.indexAddr Tryz.underlying65 ti9 (by decide) rfl rfl hl (by omega)) ?_; refine RW.op1 rfl (runs_load1 sc9 rfl (hst.cell_imm (RdS.at hl (by omega) (by omega)))) ?_; rw [show sat l (j : Int) = x by rw [sat_get hj1, hx]]; refine RW.op1 rfl (runs_assign rfl) ?_; refine RW.done ?_; refine AQ.next ?_; refine CW.ret ?_; refine AQ.ret1 rfl rfl ?_; exact ⟨x, by rw [← hx]; exact List.getElem_mem _, rfl, hst⟩
set_option maxRecDepth 100000 in
set_option maxHeartbeats 1000000 in
theorem url_spec18 {w0 w : World} {I : Imm} {L : Own} (hst : St w0 w I L) (n : Int) (hn : i64ok n) :
    Calls Tryz.prog 17 #[.int .i64 n] w fun e w' => ∃ I' x, I.le I' ∧ e = .returned (.string x) ∧ x.size ≤ 60 ∧ St w0 w' I' L := by
  refine enter Tryz.func17 rfl (N := 6) rfl rfl ?_
  simp only [List.zipIdx_cons, List.zipIdx_nil, List.map_cons, List.map_nil, Nat.zero_add, Nat.reduceAdd]
  have hle := Imm.le.refl I; refine CW.seq ?_; refine CW.region ?_; refine RW.op1 rfl (runs_assign rfl) ?_; refine RW.done ?_; refine AQ.next ?_; refine CW.seq ?_; refine CW.region ?_; refine RW.op1 rfl (runs_move rfl) ?_; refine RW.opE rfl (runs_lit1R Tryz.underlying65 ti9 (by decide) rfl rfl rfl (by simp [Value.oneCell']) hst) ?_; rintro u1 w ⟨I1, hI1, hstn, h1⟩; clear hst; have hst := hstn; clear hstn; replace hle := hle.trans hI1; have hU : RdS _ u1 urlsL := h1; refine RW.call rfl call24 rfl rfl (at_spec18 hst n hn hU (by decide) (by decide)) ?_; rintro e w ⟨x, hx, rfl, hstn⟩; clear hst; have hst := hstn; clear hstn; refine ⟨_, rfl, ?_⟩; refine RW.op1 rfl (runs_assign rfl) ?_; refine RW.done ?_; refine AQ.next ?_; refine CW.ret ?_; refine AQ.ret1 rfl rfl ?_; exact ⟨_, x, hle, rfl, urlsL_sz x hx, hst⟩
set_option maxRecDepth 100000 in
set_option maxHeartbeats 1000000 in
theorem odd_spec18 {w0 w : World} {I : Imm} {L : Own} (hst : St w0 w I L) (n : Int) (hn : i64ok n) :
    Calls Tryz.prog 40 #[.int .i64 n, .string (ByteArray.mk #[])] w fun e w' => ∃ I' x, I.le I' ∧ e = .returned (.string x) ∧ x.size ≤ 60 ∧ St w0 w' I' L := by
  refine enter Tryz.func40 rfl (N := 23) rfl rfl ?_
  simp only [List.zipIdx_cons, List.zipIdx_nil, List.map_cons, List.map_nil, Nat.zero_add, Nat.reduceAdd]
  have hle := Imm.le.refl I; refine CW.seq ?_; refine CW.region ?_; refine RW.op1 rfl (runs_assign rfl) ?_; refine RW.done ?_; refine AQ.next ?_; refine CW.seq ?_; refine CW.seq ?_; refine CW.region ?_; refine RW.op1 rfl (runs_move rfl) ?_; refine RW.call rfl call6 rfl rfl (within_spec hst (v := n) (n := 4) (hn) (by unfold i64ok; decide)) ?_; rintro e w ⟨rfl, hstn⟩; clear hst; have hst := hstn; clear hstn; refine ⟨_, rfl, ?_⟩; refine RW.op1 rfl (runs_lss rfl rfl) ?_; refine RW.done ?_; refine AQ.next ?_; refine CW.cond rfl (fun hc7 => ?_) (fun hc7 => ?_)
  · have hcb7 := hc7; try simp only [decide_eq_true_eq, decide_eq_false_iff_not] at hc7
    refine CW.seq ?_; refine CW.region ?_; refine RW.op1 rfl (runs_move rfl) ?_; refine RW.op1 rfl (runs_quo rfl rfl (by decide)) ?_; obtain ⟨q, hq⟩ : ∃ q, IntKind.i64.wrap (n.tdiv 4) = q := ⟨_, rfl⟩
    have hqo : i64ok q := by rw [← hq]; exact wrap_ok _
    rw [hq]; refine RW.call rfl call17 rfl rfl (url_spec18 hst q hqo) ?_; rintro e w ⟨J10, x, hJ10, rfl, hxz, hstn⟩; clear hst; have hst := hstn; clear hstn; replace hle := hle.trans hJ10; refine ⟨_, rfl, ?_⟩; refine RW.op1 rfl (runs_assign rfl) ?_; refine RW.done ?_; refine AQ.next ?_; refine CW.ret ?_; refine AQ.past_ret ?_; refine AQ.ret1 rfl rfl ?_; exact ⟨_, x, hle, rfl, hxz, hst⟩
  · have hcb7 := hc7; try simp only [decide_eq_true_eq, decide_eq_false_iff_not] at hc7
    refine CW.skip ?_; refine AQ.next ?_; refine CW.seq ?_; refine CW.region ?_; refine RW.op1 rfl (runs_move rfl) ?_; refine RW.op1 rfl (runs_quo rfl rfl (by decide)) ?_; obtain ⟨q, hq⟩ : ∃ q, IntKind.i64.wrap (n.tdiv 4) = q := ⟨_, rfl⟩
    have hqo : i64ok q := by rw [← hq]; exact wrap_ok _
    rw [hq]; refine RW.op1 rfl (runs_move rfl) ?_; refine RW.op1 rfl (runs_move rfl) ?_; refine RW.op1 rfl (runs_addS rfl rfl (by decide)) ?_; refine RW.op1 rfl (runs_move rfl) ?_; refine RW.op1 rfl (runs_addS rfl rfl (by decide)) ?_; refine RW.op1 rfl (runs_addS rfl rfl (by decide)) ?_; refine RW.op1 rfl (runs_move rfl) ?_; refine RW.op1 rfl (runs_addS rfl rfl (by decide)) ?_; refine RW.opE rfl (runs_lit1R Tryz.underlying65 ti9 (by decide) rfl rfl rfl (by simp [Value.oneCell']) hst) ?_; rintro u3 w ⟨I3, hI3, hstn, h3⟩; clear hst; have hst := hstn; clear hstn; replace hle := hle.trans hI3; have hU : RdS _ u3 (oddC ++ [ByteArray.mk #[], ByteArray.mk #[104, 116, 116, 112, 58, 47, 47, 97, 46, 98, 47] ++ ByteArray.mk #[], ByteArray.mk #[104, 116, 116, 112, 115, 58, 47, 47] ++ ByteArray.mk #[] ++ ByteArray.mk #[47], ByteArray.mk #[47] ++ ByteArray.mk #[]]) := h3; refine RW.call rfl call24 rfl rfl (at_spec18 hst q hqo hU (by decide) (by decide)) ?_; rintro e w ⟨x, hx, rfl, hstn⟩; clear hst; have hst := hstn; clear hstn
    have hxz : x.size ≤ 60 := by
      rcases List.mem_append.1 hx with h | h
      · exact oddC_sz x h
      · exact (show ∀ z ∈ [ByteArray.mk #[], ByteArray.mk #[104, 116, 116, 112, 58, 47, 47, 97, 46, 98, 47] ++ ByteArray.mk #[], ByteArray.mk #[104, 116, 116, 112, 115, 58, 47, 47] ++ ByteArray.mk #[] ++ ByteArray.mk #[47], ByteArray.mk #[47] ++ ByteArray.mk #[]], z.size ≤ 60 by decide) x h
    refine ⟨_, rfl, ?_⟩; refine RW.op1 rfl (runs_assign rfl) ?_; refine RW.done ?_; refine AQ.next ?_; refine CW.ret ?_; refine AQ.ret1 rfl rfl ?_; exact ⟨_, x, hle, rfl, hxz, hst⟩
set_option maxRecDepth 100000 in
set_option maxHeartbeats 1000000 in
theorem list_spec18 {w0 w : World} {I : Imm} {L : Own} (hst : St w0 w I L) (k : Nat) (hk : k < 3) :
    Calls Tryz.prog 18 #[.int .i64 (k : Int), .string (ByteArray.mk #[])] w fun e w' => ∃ I' x, I.le I' ∧ e = .returned (.string x) ∧ CspOk x ∧ St w0 w' I' L := by
  refine enter Tryz.func18 rfl (N := 25) rfl rfl ?_
  simp only [List.zipIdx_cons, List.zipIdx_nil, List.map_cons, List.map_nil, Nat.zero_add, Nat.reduceAdd]
  have hle := Imm.le.refl I; refine CW.seq ?_; refine CW.region ?_; refine RW.op1 rfl (runs_assign rfl) ?_; refine RW.done ?_; refine AQ.next ?_; refine CW.seq ?_; refine CW.region ?_; refine RW.op1 rfl (runs_move rfl) ?_; refine RW.opE rfl (runs_lit1R Tryz.underlying65 ti9 (by decide) rfl rfl rfl (by simp [Value.oneCell']) hst) ?_; rintro u1 w ⟨I1, hI1, hstn, h1⟩; clear hst; have hst := hstn; clear hstn; replace hle := hle.trans hI1; have hU : RdS _ u1 (srcC ++ [ByteArray.mk #[]]) := h1; refine RW.op1 rfl (runs_assign rfl) ?_; refine RW.done ?_; refine AQ.next ?_; refine CW.seq ?_; refine CW.region ?_; refine RW.op1 rfl (runs_move rfl) ?_; refine RW.call rfl call6 rfl rfl (within_spec hst (v := (k : Int)) (n := 40) (by unfold i64ok; omega) (by unfold i64ok; decide)) ?_; rintro e w ⟨rfl, hstn⟩; clear hst; have hst := hstn; clear hstn; rw [within_small (k := (k : Int)) (n := 40) (by omega) (by omega)]; refine ⟨_, rfl, ?_⟩; refine RW.op1 rfl (runs_assign rfl) ?_; refine RW.done ?_; refine AQ.next ?_; refine CW.seq ?_; refine CW.seq ?_; refine CW.region ?_; refine RW.op1 rfl (runs_move rfl) ?_; refine RW.op1 rfl (runs_move rfl) ?_; refine RW.op1 rfl (RdL.len Tryz.underlying65 rfl hU) ?_; refine RW.op1 rfl (runs_geq rfl rfl) ?_; refine RW.done ?_; refine AQ.next ?_; refine CW.cond rfl (fun hc => absurd hc (by intro h; have h2 := of_decide_eq_true h; have h3 : ((srcC ++ [ByteArray.mk #[]]).length : Int) = 30 := rfl; omega)) (fun hc => ?_); refine CW.skip ?_; refine AQ.next ?_
  refine CW.seq ?_; refine CW.region ?_; refine RW.op1 rfl (runs_move rfl) ?_; refine RW.op1 rfl (runs_move rfl) ?_; refine RW.op1 rfl (RdL.indexAddr Tryz.underlying65 ti9 (by decide) rfl rfl hU (by show 0 ≤ (k : Int) ∧ (k : Int) < 30; omega)) ?_; refine RW.op1 rfl (runs_load1 sc9 rfl (hst.cell_imm (RdS.at hU (by omega) (by show (k : Int) < 30; omega)))) ?_; refine RW.op1 rfl (runs_assign rfl) ?_; refine RW.done ?_; refine AQ.next ?_; refine CW.ret ?_; refine AQ.ret1 rfl rfl ?_; exact ⟨_, _, hle, rfl, srcC_ok k hk, hst⟩
def hdsA : List HRow := [(⟨#[65, 99, 99, 101, 112, 116]⟩, ⟨#[120, 47, 121]⟩), (⟨#[88, 45, 79, 110, 101]⟩, ⟨#[49]⟩), (⟨#[67, 111, 110, 116, 101, 110, 116, 45, 84, 121, 112, 101]⟩, ⟨#[116, 101, 120, 116, 47, 112, 108, 97, 105, 110, 59, 32, 117]⟩), (⟨#[99, 111, 110, 116, 101, 110, 116, 45, 116, 121, 112, 101]⟩, ⟨#[97, 47, 106, 115, 111, 110]⟩), (⟨#[120, 45, 116, 119, 111]⟩, ⟨#[]⟩), (⟨#[97, 99, 99, 101, 112, 116, 45, 76, 65, 78, 71]⟩, ⟨#[100, 101]⟩), (⟨#[120, 45, 111, 110, 101]⟩, ⟨#[50]⟩)]
def hdsB (s : ByteArray) : List HRow := [(⟨#[72, 111, 115, 116]⟩, ⟨#[120]⟩), (⟨#[67, 111, 111, 107, 105, 101]⟩, ⟨#[49]⟩), (⟨#[115, 101, 99, 45, 120]⟩, ⟨#[49]⟩), (⟨#[80, 114, 111, 120, 121, 45, 121]⟩, ⟨#[49]⟩), (⟨#[]⟩, ⟨#[49]⟩), (⟨#[97, 32, 98]⟩, ⟨#[49]⟩), (⟨#[120]⟩, ⟨#[32, 49]⟩), (⟨#[120]⟩, ⟨#[49, 50, 51, 52, 53, 54, 55, 56, 57, 48, 49, 50, 51, 52, 53, 54, 32, 55]⟩), (⟨#[97, 98, 99, 100, 101, 102, 103, 104, 105, 106, 107, 108, 109]⟩, ⟨#[49]⟩), (⟨#[120]⟩, s), (s, ⟨#[49]⟩), (⟨#[120]⟩, ⟨#[195, 169]⟩)]
theorem hdsA_sz : ∀ r ∈ hdsA, r.1.size ≤ 20 ∧ r.2.size ≤ 20 := by decide
def HdM (s : ByteArray) (hs : List HRow) : Prop := hs.length ≤ 4 ∧ ∀ r ∈ hs, r ∈ hdsA ∨ r ∈ hdsB s
theorem HdM.sz {hs : List HRow} (h : HdM (ByteArray.mk #[]) hs) : ∀ r ∈ hs, r.1.size ≤ 20 ∧ r.2.size ≤ 20 := by
  intro r hr
  rcases h.2 r hr with h1 | h1
  · exact hdsA_sz r h1
  · exact (show ∀ r ∈ hdsB (ByteArray.mk #[]), r.1.size ≤ 20 ∧ r.2.size ≤ 20 by decide) r h1
set_option maxRecDepth 100000 in
set_option maxHeartbeats 4000000 in
theorem heads_spec {w0 w : World} {I : Imm} {L : Own} (hst : St w0 w I L) (n : Int) (hn : i64ok n) (s : ByteArray) :
    Calls Tryz.prog 39 #[.int .i64 n, .string s] w fun e w' => ∃ I' v hs, Imm.le I I' ∧ e = .returned v ∧ St w0 w' I' L ∧ RdH I' v hs ∧ HdM s hs := by
  refine enter Tryz.func39 rfl (N := 86) rfl rfl ?_
  simp only [List.zipIdx_cons, List.zipIdx_nil, List.map_cons, List.map_nil, Nat.zero_add, Nat.reduceAdd]
  have hle := Imm.le.refl I; refine CW.seq ?_; refine CW.region ?_; refine RW.op1 rfl (runs_assign rfl) ?_; refine RW.done ?_; refine AQ.next ?_; refine CW.seq ?_; refine CW.region ?_; refine RW.op1 rfl (runs_buildF (cells := [_, _]) bz95 rfl rfl rfl rfl rfl) ?_; refine RW.op1 rfl (runs_buildF (cells := [_, _]) bz95 rfl rfl rfl rfl rfl) ?_; refine RW.op1 rfl (runs_buildF (cells := [_, _]) bz95 rfl rfl rfl rfl rfl) ?_; refine RW.op1 rfl (runs_buildF (cells := [_, _]) bz95 rfl rfl rfl rfl rfl) ?_; refine RW.op1 rfl (runs_buildF (cells := [_, _]) bz95 rfl rfl rfl rfl rfl) ?_; refine RW.op1 rfl (runs_buildF (cells := [_, _]) bz95 rfl rfl rfl rfl rfl) ?_; refine RW.op1 rfl (runs_buildF (cells := [_, _]) bz95 rfl rfl rfl rfl rfl) ?_; refine RW.opE rfl (runs_litF (xs := [.agg #[_, _], .agg #[_, _], .agg #[_, _], .agg #[_, _], .agg #[_, _], .agg #[_, _], .agg #[_, _]]) Tryz.underlying26 ti95 (by decide) rfl rfl rfl rfl rfl hst (by decide)) ?_; rintro u1 w ⟨Lv1, hstn, hg1⟩; clear hst; have hst := hstn; clear hstn; obtain ⟨J1, hJ1, hstn, h1⟩ := Grow.freeze hg1 hst; clear hst; have hst := hstn; clear hstn; replace hle := hle.trans hJ1; try simp only [List.nil_append] at h1
  replace h1 : RdH J1 u1 hdsA := h1; obtain ⟨vA, rfl⟩ : ∃ v, v = u1 := ⟨_, rfl⟩; have hA := h1; refine RW.op1 rfl (runs_assign rfl) ?_; refine RW.done ?_; refine AQ.next ?_; refine CW.seq ?_; refine CW.region ?_; refine RW.op1 rfl (runs_buildF (cells := [_, _]) bz95 rfl rfl rfl rfl rfl) ?_; refine RW.op1 rfl (runs_buildF (cells := [_, _]) bz95 rfl rfl rfl rfl rfl) ?_; refine RW.op1 rfl (runs_buildF (cells := [_, _]) bz95 rfl rfl rfl rfl rfl) ?_; refine RW.op1 rfl (runs_buildF (cells := [_, _]) bz95 rfl rfl rfl rfl rfl) ?_; refine RW.op1 rfl (runs_buildF (cells := [_, _]) bz95 rfl rfl rfl rfl rfl) ?_; refine RW.op1 rfl (runs_buildF (cells := [_, _]) bz95 rfl rfl rfl rfl rfl) ?_; refine RW.op1 rfl (runs_buildF (cells := [_, _]) bz95 rfl rfl rfl rfl rfl) ?_; refine RW.op1 rfl (runs_buildF (cells := [_, _]) bz95 rfl rfl rfl rfl rfl) ?_; refine RW.op1 rfl (runs_buildF (cells := [_, _]) bz95 rfl rfl rfl rfl rfl) ?_; refine RW.op1 rfl (runs_move rfl) ?_; refine RW.op1 rfl (runs_buildF (cells := [_, _]) bz95 rfl rfl rfl rfl rfl) ?_; refine RW.op1 rfl (runs_move rfl) ?_; refine RW.op1 rfl (runs_buildF (cells := [_, _]) bz95 rfl rfl rfl rfl rfl) ?_; refine RW.op1 rfl (runs_buildF (cells := [_, _]) bz95 rfl rfl rfl rfl rfl) ?_
  refine RW.opE rfl (runs_litF (xs := [.agg #[_, _], .agg #[_, _], .agg #[_, _], .agg #[_, _], .agg #[_, _], .agg #[_, _], .agg #[_, _], .agg #[_, _], .agg #[_, _], .agg #[_, _], .agg #[_, _], .agg #[_, _]]) Tryz.underlying26 ti95 (by decide) rfl rfl rfl rfl rfl hst (by decide)) ?_; rintro u2 w ⟨Lv2, hstn, hg2⟩; clear hst; have hst := hstn; clear hstn; obtain ⟨J2, hJ2, hstn, h2⟩ := Grow.freeze hg2 hst; clear hst; have hst := hstn; clear hstn; replace h1 := h1.mono hJ2; replace hA := hA.mono hJ2; replace hle := hle.trans hJ2; try simp only [List.nil_append] at h2
  replace h2 : RdH J2 u2 (hdsB s) := h2; obtain ⟨vB, rfl⟩ : ∃ v, v = u2 := ⟨_, rfl⟩; have hB := h2; refine RW.op1 rfl (runs_assign rfl) ?_; refine RW.done ?_; refine AQ.next ?_; refine CW.seq ?_; refine CW.region ?_; refine RW.op1 rfl (runs_assign rfl) ?_; refine RW.done ?_; refine AQ.next ?_; refine CW.seq ?_; refine CW.region ?_; refine RW.op1 rfl (runs_assign rfl) ?_; refine RW.done ?_; refine AQ.next ?_; refine CW.seq ?_; refine CW.seq ?_; refine CW.region ?_; refine RW.op1 rfl (runs_assign rfl) ?_; refine RW.done ?_; refine AQ.next ?_; refine CW.block ?_; refine CW.loop (Nat × Imm × Value × Own × List HRow) (fun x w => I.le x.2.1 ∧ RdH x.2.1 vA hdsA ∧ RdH x.2.1 vB (hdsB s) ∧ St w0 w x.2.1 (x.2.2.2.1 ++ L) ∧ Grow 95 2 x.2.2.1 (x.2.2.2.2).length ((x.2.2.2.2).flatMap hrow) x.2.2.2.1 ∧ x.2.2.2.2.length = x.1 ∧ x.1 ≤ 2 ∧ ∀ r ∈ x.2.2.2.2, r ∈ hdsA) (fun x => [(0, .int .i64 n), (5, vA), (6, vB), (7, .func (.func 6) #[] #[]), (8, x.2.2.1), (9, .int .i64 (x.1 : Nat))]) (fun x => 2 - x.1) ⟨(0, _, _, [], []), ⟨hle, hA, hB, hst, Grow.nil _ _, rfl, Nat.zero_le _, by simp⟩, ⟨rfl, rfl, rfl, rfl, rfl, rfl, trivial⟩⟩ ?_; clear hle hA hB; rintro ⟨k, I2, v2, Lv2, hs⟩ w ⟨hle, hA, hB, hstn, hg2, hk, hk2, hhs⟩; dsimp only at hle hA hB hstn hg2 hk hk2 hhs ⊢; clear hst; have hst := hstn; clear hstn; refine CW.seq ?_; refine CW.seq ?_
  refine CW.cut Unit (fun _ w => St w0 w I2 (Lv2 ++ L)) (fun _ => [(0, .int .i64 n), (5, vA), (6, vB), (7, .func (.func 6) #[] #[]), (8, v2), (9, .int .i64 (k : Nat)), (41, .bool (decide ((k : Int) < within n 4 ∧ k < 2)))]) ?_ ?_
  ·
    refine CW.region ?_; refine RW.op1 rfl (runs_move rfl) ?_; refine RW.op1 rfl (runs_move rfl) ?_; refine RW.op1 rfl (runs_move rfl) ?_; refine RW.call rfl call6 rfl rfl (within_spec hst (v := n) (n := 4) (hn) (by unfold i64ok; decide)) ?_; rintro e w ⟨rfl, hstn⟩; clear hst; have hst := hstn; clear hstn; refine ⟨_, rfl, ?_⟩; refine RW.op1 rfl (runs_lss rfl rfl) ?_; refine RW.op1 rfl (runs_move rfl) ?_; refine RW.split (t := 38) rfl (fun hb38 => ?_) (fun hb38 => ?_)
    · have hb38p := hb38; try simp only [decide_eq_true_eq, decide_eq_false_iff_not] at hb38p
      refine RW.on_guard rfl rfl rfl rfl hb38 ?_; refine RW.op1 rfl (runs_move rfl) ?_; refine RW.on_guard rfl rfl rfl rfl hb38 ?_; refine RW.op1 rfl (runs_lss rfl rfl) ?_; refine RW.op1 rfl (runs_pick_true rfl hb38 rfl) ?_; refine RW.done ?_; exact AQ.meet () hst ⟨rfl, rfl, rfl, rfl, rfl, rfl, boolN (by simp only [decide_eq_true_eq, Bool.false_eq_true, false_iff]; omega), trivial⟩
    · have hb38p := hb38; try simp only [decide_eq_true_eq, decide_eq_false_iff_not] at hb38p
      refine RW.off_guard rfl rfl rfl rfl hb38 ?_; refine RW.off_guard rfl rfl rfl rfl hb38 ?_; refine RW.op1 rfl (runs_pick_false rfl hb38 rfl) ?_; refine RW.done ?_; exact AQ.meet () hst ⟨rfl, rfl, rfl, rfl, rfl, rfl, boolN (by simp only [decide_eq_true_eq, Bool.false_eq_true, false_iff]; omega), trivial⟩
  · rintro _ w hstn; clear hst; have hst := hstn; clear hstn; refine AQ.next ?_; refine CW.cond rfl (fun hc41 => ?_) (fun hc41 => ?_)
    · have hcb41 := hc41; try simp only [decide_eq_true_eq, decide_eq_false_iff_not] at hc41
      have h41 : (k : Int) < within n 4 ∧ k < 2 := of_decide_eq_true hcb41; refine CW.skip ?_; refine AQ.next ?_; refine CW.seq ?_; refine CW.block ?_; refine CW.region ?_; refine RW.op1 rfl (runs_move rfl) ?_; refine RW.op1 rfl (runs_move rfl) ?_; refine RW.op1 rfl (runs_move rfl) ?_; refine RW.op1 rfl (runs_move rfl) ?_; refine RW.op1 rfl (runs_quo rfl rfl (by decide)) ?_; refine RW.op1 rfl (runs_move rfl) ?_; refine RW.op1 rfl (runs_move rfl) ?_; refine RW.op1 rfl (runs_quo rfl rfl (by decide)) ?_; refine RW.op1 rfl (runs_rem rfl rfl (by decide)) ?_; refine RW.op1 rfl (runs_addW rfl rfl) ?_; refine RW.op1 rfl (runs_mulW rfl rfl) ?_; refine RW.op1 rfl (runs_addW rfl rfl) ?_
      generalize hq : IntKind.i64.wrap (IntKind.i64.wrap (n.tdiv 4) + _) = q
      have hqo : i64ok q := by rw [← hq]; exact wrap_ok _
      refine RW.op1 rfl (runs_move rfl) ?_; refine RW.op1 rfl (RdL.len Tryz.underlying26 rfl hA) ?_; refine RW.call rfl call6 rfl rfl (within_spec hst (v := q) (n := 7) hqo (by unfold i64ok; decide)) ?_; rintro e w ⟨rfl, hstn⟩; clear hst; have hst := hstn; clear hstn; have r0 := within_range q 7; have r0t := r0.2 (by decide); obtain ⟨j, hj⟩ : ∃ j : Nat, within q 7 = (j : Int) := ⟨(within q 7).toNat, by omega⟩; rw [show ((hdsA.length : Nat) : Int) = 7 from rfl, hj]; rw [hj] at r0 r0t; obtain ⟨⟨rn, rv⟩, hr⟩ : ∃ r, hdsA[j]? = some r := ⟨_, List.getElem?_eq_getElem (show j < hdsA.length by show j < 7; omega)⟩; refine ⟨_, rfl, ?_⟩; refine RW.op1 rfl (RdL.indexAddr Tryz.underlying26 ti95 (by decide) rfl rfl hA (by show 0 ≤ (j : Int) ∧ (j : Int) < 7; omega)) ?_; refine RW.op1 rfl (RdL.loadRow (row := hrow (rn, rv)) ag95 ti95 rfl hA hst rfl (hrow_at hr)) ?_; refine RW.opE rfl (runs_litF (xs := [.agg #[_, _]]) Tryz.underlying26 ti95 (by decide) rfl rfl rfl rfl rfl hst (by decide)) ?_; rintro u5 w ⟨Lv5, hstn, hg5⟩; clear hst; have hst := hstn; clear hstn; obtain ⟨J5, hJ5, hstn, h5⟩ := Grow.freeze hg5 hst; clear hst; have hst := hstn; clear hstn; replace hA := hA.mono hJ5; replace hB := hB.mono hJ5; replace hle := hle.trans hJ5; try simp only [List.nil_append] at h5
      replace h5 : RdL _ 2 u5 1 (hrow (rn, rv)) := h5; have hR := h5; refine RW.opE rfl (runs_appendR Tryz.underlying26 ti95 rfl (by decide) rfl rfl hst hg2 hR (by omega) (by unfold maxLen; omega)) ?_; rintro uN w ⟨LvN, hstn, hgN⟩; clear hst; have hst := hstn; clear hstn; refine RW.op1 rfl (runs_assign rfl) ?_; refine RW.done ?_; refine AQ.block_normal ?_; refine AQ.next ?_; refine CW.region ?_; refine RW.op1 rfl (runs_move rfl) ?_; refine RW.op1 rfl (runs_add rfl rfl (by omega)) ?_; refine RW.op1 rfl (runs_assign rfl) ?_; refine RW.done ?_
      exact AQ.again (x := (k, I2, v2, Lv2, hs)) (k + 1, _, uN, LvN, hs ++ [(rn, rv)]) ⟨hle, hA, hB, hst, by
        dsimp only; rw [List.length_append, List.flatMap_append]
        exact hgN, by simp [hk], by dsimp only; omega, by
        intro r hr2
        rcases List.mem_append.1 hr2 with h | h
        · exact hhs r h
        · rw [List.mem_singleton.1 h]; exact List.mem_of_getElem? hr⟩ ⟨rfl, rfl, rfl, rfl, rfl, rfl, trivial⟩ (by dsimp only; omega)
    · have hcb41 := hc41; try simp only [decide_eq_true_eq, decide_eq_false_iff_not] at hc41
      skip
      refine CW.exit ?_; refine AQ.past_exit ?_; refine AQ.past_exit ?_; refine AQ.block_hit ?_; refine AQ.next ?_; refine CW.seq ?_; refine CW.seq ?_; refine CW.region ?_; refine RW.op1 rfl (runs_move rfl) ?_; refine RW.op1 rfl (runs_move rfl) ?_; refine RW.op1 rfl (runs_quo rfl rfl (by decide)) ?_; obtain ⟨q9, hq9⟩ : ∃ q, IntKind.i64.wrap (n.tdiv 9) = q := ⟨_, rfl⟩
      have hqo9 : i64ok q9 := by rw [← hq9]; exact wrap_ok _
      rw [hq9]; refine RW.call rfl call6 rfl rfl (within_spec hst (v := q9) (n := 20) (hqo9) (by unfold i64ok; decide)) ?_; rintro e w ⟨rfl, hstn⟩; clear hst; have hst := hstn; clear hstn; refine ⟨_, rfl, ?_⟩; refine RW.done ?_; refine AQ.next ?_; refine CW.block ?_; refine CW.seq ?_; refine CW.region ?_; refine RW.op1 rfl (runs_eqI rfl rfl) ?_; refine RW.op1 rfl (runs_assign rfl) ?_; refine RW.done ?_; refine AQ.next ?_; refine CW.cond rfl (fun hc67 => ?_) (fun hc67 => ?_)
      · have hcb67 := hc67; try simp only [decide_eq_true_eq, decide_eq_false_iff_not] at hc67
        refine CW.region ?_; refine RW.op1 rfl (runs_move rfl) ?_; refine RW.op1 rfl (runs_move rfl) ?_; refine RW.op1 rfl (runs_move rfl) ?_; refine RW.op1 rfl (runs_move rfl) ?_; refine RW.op1 rfl (runs_move rfl) ?_; refine RW.op1 rfl (RdL.len Tryz.underlying26 rfl hB) ?_; refine RW.call rfl call6 rfl rfl (within_spec hst (v := n) (n := 12) hn (by unfold i64ok; decide)) ?_; rintro e w ⟨rfl, hstn⟩; clear hst; have hst := hstn; clear hstn; have r0 := within_range n 12; have r0t := r0.2 (by decide); obtain ⟨j, hj⟩ : ∃ j : Nat, within n 12 = (j : Int) := ⟨(within n 12).toNat, by omega⟩; rw [show (((hdsB s).length : Nat) : Int) = 12 from rfl, hj]; rw [hj] at r0 r0t; obtain ⟨⟨rn, rv⟩, hr⟩ : ∃ r, (hdsB s)[j]? = some r := ⟨_, List.getElem?_eq_getElem (show j < (hdsB s).length by show j < 12; omega)⟩; refine ⟨_, rfl, ?_⟩; refine RW.op1 rfl (RdL.indexAddr Tryz.underlying26 ti95 (by decide) rfl rfl hB (by show 0 ≤ (j : Int) ∧ (j : Int) < 12; omega)) ?_; refine RW.op1 rfl (RdL.loadRow (row := hrow (rn, rv)) ag95 ti95 rfl hB hst rfl (hrow_at hr)) ?_; refine RW.opE rfl (runs_litF (xs := [.agg #[_, _]]) Tryz.underlying26 ti95 (by decide) rfl rfl rfl rfl rfl hst (by decide)) ?_; rintro u9 w ⟨Lv9, hstn, hg9⟩; clear hst; have hst := hstn; clear hstn; obtain ⟨J9, hJ9, hstn, h9⟩ := Grow.freeze hg9 hst; clear hst; have hst := hstn; clear hstn; replace hA := hA.mono hJ9; replace hB := hB.mono hJ9; replace hle := hle.trans hJ9; try simp only [List.nil_append] at h9
        replace h9 : RdL _ 2 u9 1 (hrow (rn, rv)) := h9; have hR8 := h9; refine RW.opE rfl (runs_appendR Tryz.underlying26 ti95 rfl (by decide) rfl rfl hst hg2 hR8 (by omega) (by unfold maxLen; omega)) ?_; rintro uM w ⟨LvM, hstn, hgM⟩; clear hst; have hst := hstn; clear hstn; refine RW.op1 rfl (runs_assign rfl) ?_; refine RW.done ?_; refine AQ.block_normal ?_; refine AQ.next ?_; refine CW.seq ?_; refine CW.region ?_; refine RW.op1 rfl (runs_move rfl) ?_; refine RW.op1 rfl (runs_assign rfl) ?_; refine RW.done ?_; refine AQ.next ?_; refine CW.ret ?_; refine AQ.ret1 rfl rfl ?_; obtain ⟨I', h1, h2, h3⟩ := hgM.freeze hst; refine ⟨I', uM, hs ++ [(rn, rv)], hle.trans h1, rfl, h2, ?_, ⟨by simp; omega, fun r hr2 => ?_⟩⟩
        · unfold RdH; rw [List.length_append, List.flatMap_append]; exact h3
        · rcases List.mem_append.1 hr2 with h | h
          · exact .inl (hhs r h)
          · rw [List.mem_singleton.1 h]; exact .inr (List.mem_of_getElem? hr)
      · have hcb67 := hc67; try simp only [decide_eq_true_eq, decide_eq_false_iff_not] at hc67
        refine CW.seq ?_; refine CW.region ?_; refine RW.op1 rfl (runs_eqI rfl rfl) ?_; refine RW.op1 rfl (runs_assign rfl) ?_; refine RW.done ?_; refine AQ.next ?_; refine CW.cond rfl (fun hc80 => ?_) (fun hc80 => ?_)
        · have hcb80 := hc80; try simp only [decide_eq_true_eq, decide_eq_false_iff_not] at hc80
          refine CW.region ?_; refine RW.op1 rfl (runs_move rfl) ?_; refine RW.op1 rfl (runs_move rfl) ?_; obtain ⟨Bs, cs, hvs, hsrc⟩ : ∃ B c, v2 = .slice B hs.length c ∧ ∀ j u, (hs.flatMap hrow)[j]? = some u → ∃ a, B = some a ∧ w.cell? (a.add j) = some u := Grow.srcR hg2 hst; refine RW.opE rfl (runs_appendG (m := hs.length) (c := cs) (B := Bs) Tryz.underlying26 ti95 rfl (by decide) rfl (by rw [← hvs]; rfl) hst hg2 (by rw [flat_len2]) hsrc hg2.2.1 (by omega) (by unfold maxLen; omega)) ?_; rintro uM w ⟨LvM, hstn, hgM⟩; clear hst; have hst := hstn; clear hstn; refine RW.op1 rfl (runs_assign rfl) ?_; refine RW.done ?_; refine AQ.block_normal ?_; refine AQ.next ?_; refine CW.seq ?_; refine CW.region ?_; refine RW.op1 rfl (runs_move rfl) ?_; refine RW.op1 rfl (runs_assign rfl) ?_; refine RW.done ?_; refine AQ.next ?_; refine CW.ret ?_; refine AQ.ret1 rfl rfl ?_; obtain ⟨I', h1, h2, h3⟩ := hgM.freeze hst; refine ⟨I', uM, hs ++ hs, hle.trans h1, rfl, h2, ?_, ⟨by simp; omega, fun r hr2 => ?_⟩⟩
          · unfold RdH; rw [List.length_append, List.flatMap_append]; exact h3
          · rcases List.mem_append.1 hr2 with h | h <;> exact .inl (hhs r h)
        · have hcb80 := hc80; try simp only [decide_eq_true_eq, decide_eq_false_iff_not] at hc80
          refine CW.skip ?_; refine AQ.block_normal ?_; refine AQ.next ?_; refine CW.seq ?_; refine CW.region ?_; refine RW.op1 rfl (runs_move rfl) ?_; refine RW.op1 rfl (runs_assign rfl) ?_; refine RW.done ?_; refine AQ.next ?_; refine CW.ret ?_; refine AQ.ret1 rfl rfl ?_; obtain ⟨I', h1, h2, h3⟩ := hg2.freeze hst; exact ⟨I', v2, hs, hle.trans h1, rfl, h2, h3, by omega, fun r hr2 => .inl (hhs r hr2)⟩
structure ReqOk (me ur : ByteArray) (hs : List HRow) (bo : ByteArray) (mo cr : Int) : Prop where
  me : me.size ≤ 60
  ur : ur.size ≤ 60
  len : hs.length ≤ 4
  hs : ∀ r ∈ hs, r.1.size ≤ 20 ∧ r.2.size ≤ 20
  bo : bo.size ≤ 60
  mo : -10 ≤ mo ∧ mo ≤ 10
  cr : -10 ≤ cr ∧ cr ≤ 10
theorem ReqOk.nil {me ur : ByteArray} {hs : List HRow} {bo : ByteArray} {mo cr : Int} (h : ReqOk me ur hs bo mo cr) : ReqOk me ur [] bo mo cr := ⟨h.me, h.ur, by simp, by simp, h.bo, h.mo, h.cr⟩
theorem bytes_sz (n : Int) (k : Int) (h : k ≤ 60) : (strOf (bytesOf n k)).size ≤ 60 := by rw [strOfZ, bytesOf_length]; omega
set_option maxRecDepth 100000 in
set_option maxHeartbeats 4000000 in
theorem req_spec {w0 w : World} {I : Imm} {L : Own} (hst : St w0 w I L) (n : Int) (hn : i64ok n) :
    Calls Tryz.prog 19 #[.int .i64 n, .string (ByteArray.mk #[])] w fun e w' => ∃ I' me ur vh hs bo mo cr, I.le I' ∧ e = .returned (.agg #[.string me, .string ur, vh, .string bo, .int .i64 mo, .int .i64 cr]) ∧ St w0 w' I' L ∧ RdH I' vh hs ∧ ReqOk me ur hs bo mo cr := by
  refine enter Tryz.func19 rfl (N := 105) rfl rfl ?_
  simp only [List.zipIdx_cons, List.zipIdx_nil, List.map_cons, List.map_nil, Nat.zero_add, Nat.reduceAdd]
  have hle := Imm.le.refl I; refine CW.seq ?_; refine CW.region ?_; refine RW.opE rfl (runs_alloc ti28 hst) ?_; rintro _ w ⟨b1, rfl, hstn⟩; clear hst; have hst := hstn; clear hstn; refine RW.done ?_; refine AQ.next ?_; refine CW.seq ?_; refine CW.region ?_; refine RW.op1 rfl (runs_assign rfl) ?_; refine RW.done ?_; refine AQ.next ?_; refine CW.seq ?_; refine CW.region ?_; refine RW.op1 rfl (runs_move rfl) ?_; refine RW.opE rfl (runs_lit1R Tryz.underlying65 ti9 (by decide) rfl rfl rfl (by simp [Value.oneCell']) hst) ?_; rintro u2 w ⟨I2, hI2, hstn, h2⟩; clear hst; have hst := hstn; clear hstn; replace hle := hle.trans hI2; have hM : RdS _ u2 metsL := h2; refine RW.call rfl call24 rfl rfl (at_spec18 hst n hn hM (by decide) (by decide)) ?_; rintro e w ⟨me, hme, rfl, hstn⟩; clear hst; have hst := hstn; clear hstn; have hmez := metsL_sz me hme; refine ⟨_, rfl, ?_⟩; refine RW.op1 rfl (runs_move rfl) ?_; refine RW.op1 rfl (runs_quo rfl rfl (by decide)) ?_; obtain ⟨q8, hq8⟩ : ∃ q, IntKind.i64.wrap (n.tdiv 8) = q := ⟨_, rfl⟩
  have hq8o : i64ok q8 := by rw [← hq8]; exact wrap_ok _
  rw [hq8]; refine RW.call rfl call17 rfl rfl (url_spec18 hst q8 hq8o) ?_; rintro e w ⟨J12, ur, hJ12, rfl, hurz, hstn⟩; clear hst; have hst := hstn; clear hstn; replace h2 := h2.mono hJ12; replace hM := hM.mono hJ12; replace hle := hle.trans hJ12; refine ⟨_, rfl, ?_⟩; refine RW.op1 rfl (runs_move rfl) ?_; refine RW.op1 rfl (runs_quo rfl rfl (by decide)) ?_; obtain ⟨q96, hq96⟩ : ∃ q, IntKind.i64.wrap (n.tdiv 96) = q := ⟨_, rfl⟩
  have hq96o : i64ok q96 := by rw [← hq96]; exact wrap_ok _
  rw [hq96]; refine RW.op1 rfl (runs_move rfl) ?_; refine RW.call rfl call39 rfl rfl (heads_spec hst q96 hq96o _) ?_; rintro e w ⟨J16, vh, hs, hJ16, rfl, hstn, hH, hHd⟩; clear hst; have hst := hstn; clear hstn
  obtain ⟨Ah, ch, rfl⟩ : ∃ A c, vh = .slice A hs.length c := by obtain ⟨_, _, A, c, e, _, _⟩ := hH; exact ⟨A, c, e⟩
  replace h2 := h2.mono hJ16; replace hM := hM.mono hJ16; replace hle := hle.trans hJ16; refine ⟨_, rfl, ?_⟩; refine RW.op1 rfl (runs_move rfl) ?_; refine RW.op1 rfl (runs_move rfl) ?_; refine RW.op1 rfl (runs_quo rfl rfl (by decide)) ?_; obtain ⟨q11, hq11⟩ : ∃ q, IntKind.i64.wrap (n.tdiv 11) = q := ⟨_, rfl⟩
  have hq11o : i64ok q11 := by rw [← hq11]; exact wrap_ok _
  rw [hq11]; refine RW.call rfl call6 rfl rfl (within_spec hst (v := q11) (n := 3) (hq11o) (by unfold i64ok; decide)) ?_; rintro e w ⟨rfl, hstn⟩; clear hst; have hst := hstn; clear hstn; have rc11 := within_range q11 3; have rc11t := rc11.2 (by decide); obtain ⟨c11, hc11⟩ : ∃ z, within q11 3 = z := ⟨_, rfl⟩; rw [hc11] at rc11 rc11t ⊢; refine ⟨_, rfl, ?_⟩; refine RW.op1 rfl (runs_add rfl rfl (by omega)) ?_; obtain ⟨cr, hcr⟩ : ∃ z, 1 + c11 = z := ⟨_, rfl⟩; rw [hcr]; refine RW.op1 rfl (runs_buildF (cells := [_, _, _, _, _, _]) bz28 rfl rfl rfl rfl rfl) ?_; refine RW.opE rfl (runs_alloc ti28 hst) ?_; rintro _ w ⟨b7, rfl, hstn⟩; clear hst; have hst := hstn; clear hstn; obtain ⟨bq, hbq⟩ : ∃ b, b = b7 := ⟨_, rfl⟩; subst hbq
  refine RW.opE0 (runs_storeW ti28 rfl rfl hst (k := 0) rfl rfl rfl (NoFz.zero _) rfl) ?_
  rintro w hstn; clear hst; have hst := hstn; clear hstn; try simp only [List.set_cons_zero, List.set_cons_succ] at hst
  obtain ⟨bo, hbo⟩ : ∃ x, x = ByteArray.mk #[] := ⟨_, rfl⟩; obtain ⟨mo, hmo⟩ : ∃ x : Int, x = 2 := ⟨_, rfl⟩; obtain ⟨vh, hvh⟩ : ∃ x, x = Value.slice Ah hs.length ch := ⟨_, rfl⟩; rw [← hvh] at hH; have hok : ReqOk me ur hs bo mo cr := ⟨by omega, hurz, hHd.1, hHd.sz, by rw [hbo]; decide, by omega, by omega⟩
  have hst2 : St w0 w J16 ((bq, .cells #[.string me, .string ur, vh, .string bo, .int .i64 mo, .int .i64 cr] 28) :: (b1, .cells #[.string (ByteArray.mk #[]), .string (ByteArray.mk #[]), .slice none 0 0, .string (ByteArray.mk #[]), .int .i64 0, .int .i64 0] 28) :: L) := by rw [hbo, hmo, hvh]; exact hst
  clear hst; have hst := hst2; clear hst2 hbo hmo hvh; refine RW.done ?_; refine AQ.next ?_; refine CW.seq ?_; refine CW.seq ?_; refine CW.cut Bool (fun _ w => St w0 w J16 ((bq, .cells #[.string me, .string ur, vh, .string bo, .int .i64 mo, .int .i64 cr] 28) :: (b1, .cells #[.string (ByteArray.mk #[]), .string (ByteArray.mk #[]), .slice none 0 0, .string (ByteArray.mk #[]), .int .i64 0, .int .i64 0] 28) :: L)) (fun b => [(0, .int .i64 n), (1, .string (ByteArray.mk #[])), (4, .pointer (some ⟨b1, 0, none⟩)), (5, .func (.func 6) #[] #[]), (6, .pointer (some ⟨bq, 0, none⟩)), (30, .bool b)]) ?_ ?_
  ·
    refine CW.region ?_
    refine RW.op1 rfl (runs_fieldAddr0 rfl Tryz.underlying28 rfl ti9 (by decide)) ?_
    refine RW.op1 rfl (runs_load1 sc9 rfl (hst.cell_own (k := 0) rfl rfl)) ?_
    refine RW.op1 rfl (runs_neS rfl rfl) ?_; refine RW.op1 rfl (runs_move rfl) ?_; refine RW.split (t := 26) rfl (fun hb26 => ?_) (fun hb26 => ?_)
    · have hb26p := hb26; try simp only [decide_eq_true_eq, decide_eq_false_iff_not] at hb26p
      refine RW.on_guard rfl rfl rfl rfl hb26 ?_
      refine RW.op1 rfl (runs_fieldAddr0 rfl Tryz.underlying28 rfl ti9 (by decide)) ?_
      refine RW.on_guard rfl rfl rfl rfl hb26 ?_
      refine RW.op1 rfl (runs_load1 sc9 rfl (hst.cell_own (k := 0) rfl rfl)) ?_
      refine RW.on_guard rfl rfl rfl rfl hb26 ?_; refine RW.op1 rfl (runs_neS rfl rfl) ?_; refine RW.op1 rfl (runs_pick_true rfl hb26 rfl) ?_; refine RW.done ?_; exact AQ.meet (_ : Bool) hst ⟨rfl, rfl, rfl, rfl, rfl, rfl, trivial⟩
    · have hb26p := hb26; try simp only [decide_eq_true_eq, decide_eq_false_iff_not] at hb26p
      refine RW.off_guard rfl rfl rfl rfl hb26 ?_; refine RW.off_guard rfl rfl rfl rfl hb26 ?_; refine RW.off_guard rfl rfl rfl rfl hb26 ?_; refine RW.op1 rfl (runs_pick_false rfl hb26 rfl) ?_; refine RW.done ?_; exact AQ.meet (_ : Bool) hst ⟨rfl, rfl, rfl, rfl, rfl, rfl, trivial⟩
  · rintro bx w hstn; clear hst; have hst := hstn; clear hstn; refine AQ.next ?_; refine CW.cut (Imm × ByteArray × ByteArray × Value × List HRow × ByteArray × Int × Int) (fun y w => I.le y.1 ∧ St w0 w y.1 ((bq, .cells #[.string y.2.1, .string y.2.2.1, y.2.2.2.1, .string y.2.2.2.2.2.1, .int .i64 y.2.2.2.2.2.2.1, .int .i64 y.2.2.2.2.2.2.2] 28) :: (b1, .cells #[.string (ByteArray.mk #[]), .string (ByteArray.mk #[]), .slice none 0 0, .string (ByteArray.mk #[]), .int .i64 0, .int .i64 0] 28) :: L) ∧ RdH y.1 y.2.2.2.1 y.2.2.2.2.1 ∧ ReqOk y.2.1 y.2.2.1 y.2.2.2.2.1 y.2.2.2.2.2.1 y.2.2.2.2.2.2.1 y.2.2.2.2.2.2.2) (fun y => [(0, .int .i64 n), (1, .string (ByteArray.mk #[])), (4, .pointer (some ⟨b1, 0, none⟩)), (5, .func (.func 6) #[] #[]), (6, .pointer (some ⟨bq, 0, none⟩))]) ?_ ?_
    · refine CW.cond rfl (fun hc30 => ?_) (fun hc30 => ?_)
      · have hcb30 := hc30; try simp only [decide_eq_true_eq, decide_eq_false_iff_not] at hc30
        refine CW.region ?_; refine RW.op1 rfl (runs_move rfl) ?_; refine RW.op1 rfl (runs_move rfl) ?_; refine RW.op1 rfl (runs_quo rfl rfl (by decide)) ?_; obtain ⟨q13, hq13⟩ : ∃ q, IntKind.i64.wrap (n.tdiv 13) = q := ⟨_, rfl⟩
        have hq13o : i64ok q13 := by rw [← hq13]; exact wrap_ok _
        rw [hq13]; refine RW.call rfl call6 rfl rfl (within_spec hst (v := q13) (n := 12) (hq13o) (by unfold i64ok; decide)) ?_; rintro e w ⟨rfl, hstn⟩; clear hst; have hst := hstn; clear hstn; have rc13 := within_range q13 12; have rc13t := rc13.2 (by decide); obtain ⟨c13, hc13⟩ : ∃ z, within q13 12 = z := ⟨_, rfl⟩; rw [hc13] at rc13 rc13t ⊢; refine ⟨_, rfl, ?_⟩; refine RW.call rfl call25 rfl rfl (bytes_spec hst 97 c13 (by unfold i64ok; decide) (by omega)) ?_; rintro e w ⟨J35, v35, hJ35, rfl, hstn, hv35⟩; clear hst; have hst := hstn; clear hstn; replace hH := hH.mono hJ35; replace hle := hle.trans hJ35; refine ⟨_, rfl, ?_⟩; refine RW.op1 rfl (RdB.string Tryz.underlying37 Tryz.underlying5 Tryz.underlying9 rfl hv35 hst) ?_; have hz35 := bytes_sz 97 c13 (by omega); obtain ⟨bo35, hbo35⟩ : ∃ x, strOf (bytesOf 97 c13) = x := ⟨_, rfl⟩; rw [hbo35] at hz35 ⊢
        refine RW.op1 rfl (runs_fieldAddr0 rfl Tryz.underlying28 rfl ti9 (by decide)) ?_
        refine RW.opE0 (runs_store1P ti9 rfl rfl hst (k := 0) rfl rfl (NoFz.zero _) rfl) ?_
        rintro w hstn; clear hst; have hst := hstn; clear hstn; try simp only [List.set_cons_zero, List.set_cons_succ] at hst
        refine RW.done ?_
        exact AQ.meet (_, me, ur, vh, hs, bo35, mo, cr) ⟨hle, hst, hH, ⟨hok.me, hok.ur, hok.len, hok.hs, hz35, hok.mo, hok.cr⟩⟩ ⟨rfl, rfl, rfl, rfl, rfl, trivial⟩
      · have hcb30 := hc30; try simp only [decide_eq_true_eq, decide_eq_false_iff_not] at hc30
        refine CW.skip ?_
        exact AQ.meet (_, me, ur, vh, hs, bo, mo, cr) ⟨hle, hst, hH, hok⟩ ⟨rfl, rfl, rfl, rfl, rfl, trivial⟩
    · clear hle hst hH hok; rintro ⟨J, me, ur, vh, hs, bo, mo, cr⟩ w ⟨hle, hstn, hH, hok⟩; dsimp only at hle hstn hH hok ⊢; have hst := hstn; clear hstn; refine AQ.next ?_; refine CW.seq ?_; refine CW.seq ?_; refine CW.region ?_; refine RW.op1 rfl (runs_move rfl) ?_; refine RW.op1 rfl (runs_move rfl) ?_; refine RW.op1 rfl (runs_quo rfl rfl (by decide)) ?_; obtain ⟨q17, hq17⟩ : ∃ q, IntKind.i64.wrap (n.tdiv 17) = q := ⟨_, rfl⟩
      have hq17o : i64ok q17 := by rw [← hq17]; exact wrap_ok _
      rw [hq17]; refine RW.call rfl call6 rfl rfl (within_spec hst (v := q17) (n := 4) (hq17o) (by unfold i64ok; decide)) ?_; rintro e w ⟨rfl, hstn⟩; clear hst; have hst := hstn; clear hstn; refine ⟨_, rfl, ?_⟩; refine RW.op1 rfl (runs_eqI rfl rfl) ?_; refine RW.done ?_; refine AQ.next ?_; refine CW.cut (Imm × ByteArray × ByteArray × Value × List HRow × ByteArray × Int × Int) (fun y w => I.le y.1 ∧ St w0 w y.1 ((bq, .cells #[.string y.2.1, .string y.2.2.1, y.2.2.2.1, .string y.2.2.2.2.2.1, .int .i64 y.2.2.2.2.2.2.1, .int .i64 y.2.2.2.2.2.2.2] 28) :: (b1, .cells #[.string (ByteArray.mk #[]), .string (ByteArray.mk #[]), .slice none 0 0, .string (ByteArray.mk #[]), .int .i64 0, .int .i64 0] 28) :: L) ∧ RdH y.1 y.2.2.2.1 y.2.2.2.2.1 ∧ ReqOk y.2.1 y.2.2.1 y.2.2.2.2.1 y.2.2.2.2.2.1 y.2.2.2.2.2.2.1 y.2.2.2.2.2.2.2) (fun y => [(0, .int .i64 n), (1, .string (ByteArray.mk #[])), (4, .pointer (some ⟨b1, 0, none⟩)), (5, .func (.func 6) #[] #[]), (6, .pointer (some ⟨bq, 0, none⟩))]) ?_ ?_
      · refine CW.cond rfl (fun hc42 => ?_) (fun hc42 => ?_)
        · have hcb42 := hc42; try simp only [decide_eq_true_eq, decide_eq_false_iff_not] at hc42
          refine CW.seq ?_; refine CW.region ?_
          refine RW.op1 rfl (runs_fieldAddr0 rfl Tryz.underlying28 rfl ti3 (by decide)) ?_
          refine RW.opE0 (runs_store1P ti3 rfl rfl hst (k := 0) rfl rfl (NoFz.zero _) rfl) ?_
          rintro w hstn; clear hst; have hst := hstn; clear hstn; try simp only [List.set_cons_zero, List.set_cons_succ] at hst
          refine RW.done ?_; refine AQ.next ?_; refine CW.seq ?_; refine CW.region ?_; refine RW.op1 rfl (runs_move rfl) ?_; refine RW.op1 rfl (runs_move rfl) ?_; refine RW.op1 rfl (runs_quo rfl rfl (by decide)) ?_; obtain ⟨q68, hq68⟩ : ∃ q, IntKind.i64.wrap (n.tdiv 68) = q := ⟨_, rfl⟩
          have hq68o : i64ok q68 := by rw [← hq68]; exact wrap_ok _
          rw [hq68]; refine RW.call rfl call6 rfl rfl (within_spec hst (v := q68) (n := 4) (hq68o) (by unfold i64ok; decide)) ?_; rintro e w ⟨rfl, hstn⟩; clear hst; have hst := hstn; clear hstn; refine ⟨_, rfl, ?_⟩; refine RW.op1 rfl (runs_gtr rfl rfl) ?_; refine RW.done ?_; refine AQ.next ?_; refine CW.cond rfl (fun hc48 => ?_) (fun hc48 => ?_)
          · have hcb48 := hc48; try simp only [decide_eq_true_eq, decide_eq_false_iff_not] at hc48
            refine CW.seq ?_; refine CW.region ?_
            refine RW.op1 rfl (runs_fieldAddr0 rfl Tryz.underlying28 rfl ti26 (by decide)) ?_
            refine RW.opE0 (runs_store1P ti26 rfl rfl hst (k := 0) rfl rfl (NoFz.zero _) rfl) ?_
            rintro w hstn; clear hst; have hst := hstn; clear hstn; try simp only [List.set_cons_zero, List.set_cons_succ] at hst
            refine RW.done ?_; refine AQ.next ?_; refine CW.seq ?_; refine CW.region ?_
            refine RW.op1 rfl (runs_fieldAddr0 rfl Tryz.underlying28 rfl ti9 (by decide)) ?_
            refine RW.op1 rfl (runs_load1 sc9 rfl (hst.cell_own (k := 0) rfl rfl)) ?_
            refine RW.op1 rfl (runs_eqS rfl rfl) ?_; refine RW.op1 rfl (runs_move rfl) ?_; refine RW.split (t := 53) rfl (fun hb53 => ?_) (fun hb53 => ?_)
            · have hb53p := hb53; try simp only [decide_eq_true_eq, decide_eq_false_iff_not] at hb53p
              refine RW.off_guard rfl rfl rfl rfl hb53 ?_; refine RW.off_guard rfl rfl rfl rfl hb53 ?_; refine RW.off_guard rfl rfl rfl rfl hb53 ?_; refine RW.op1 rfl (runs_pick_true rfl hb53 rfl) ?_; refine RW.done ?_; refine AQ.next ?_; refine CW.cond_true rfl ?_; refine CW.region ?_
              refine RW.op1 rfl (runs_fieldAddr0 rfl Tryz.underlying28 rfl ti9 (by decide)) ?_
              refine RW.opE0 (runs_store1P ti9 rfl rfl hst (k := 0) rfl rfl (NoFz.zero _) rfl) ?_
              rintro w hstn; clear hst; have hst := hstn; clear hstn; try simp only [List.set_cons_zero, List.set_cons_succ] at hst
              refine RW.op1 rfl (runs_fieldAddr0 rfl Tryz.underlying28 rfl ti9 (by decide)) ?_
              refine RW.opE0 (runs_store1P ti9 rfl rfl hst (k := 0) rfl rfl (NoFz.zero _) rfl) ?_
              rintro w hstn; clear hst; have hst := hstn; clear hstn; try simp only [List.set_cons_zero, List.set_cons_succ] at hst
              refine RW.done ?_
              exact AQ.meet (_, (ByteArray.mk #[71, 69, 84]), ur, .slice none 0 0, [], (ByteArray.mk #[]), 1, cr) ⟨hle, hst, RdH.nil _, ⟨by dsimp only; decide, hok.ur, by simp, by simp, by dsimp only; decide, by dsimp only; omega, hok.cr⟩⟩ ⟨rfl, rfl, rfl, rfl, rfl, trivial⟩
            · have hb53p := hb53; try simp only [decide_eq_true_eq, decide_eq_false_iff_not] at hb53p
              refine RW.on_guard rfl rfl rfl rfl hb53 ?_
              refine RW.op1 rfl (runs_fieldAddr0 rfl Tryz.underlying28 rfl ti9 (by decide)) ?_
              refine RW.on_guard rfl rfl rfl rfl hb53 ?_
              refine RW.op1 rfl (runs_load1 sc9 rfl (hst.cell_own (k := 0) rfl rfl)) ?_
              refine RW.on_guard rfl rfl rfl rfl hb53 ?_; refine RW.op1 rfl (runs_eqS rfl rfl) ?_; refine RW.op1 rfl (runs_pick_false rfl hb53 rfl) ?_; refine RW.done ?_; refine AQ.next ?_; refine CW.cond rfl (fun hc57 => ?_) (fun hc57 => ?_)
              · have hcb57 := hc57; try simp only [decide_eq_true_eq, decide_eq_false_iff_not] at hc57
                refine CW.region ?_
                refine RW.op1 rfl (runs_fieldAddr0 rfl Tryz.underlying28 rfl ti9 (by decide)) ?_
                refine RW.opE0 (runs_store1P ti9 rfl rfl hst (k := 0) rfl rfl (NoFz.zero _) rfl) ?_
                rintro w hstn; clear hst; have hst := hstn; clear hstn; try simp only [List.set_cons_zero, List.set_cons_succ] at hst
                refine RW.op1 rfl (runs_fieldAddr0 rfl Tryz.underlying28 rfl ti9 (by decide)) ?_
                refine RW.opE0 (runs_store1P ti9 rfl rfl hst (k := 0) rfl rfl (NoFz.zero _) rfl) ?_
                rintro w hstn; clear hst; have hst := hstn; clear hstn; try simp only [List.set_cons_zero, List.set_cons_succ] at hst
                refine RW.done ?_
                exact AQ.meet (_, (ByteArray.mk #[71, 69, 84]), ur, .slice none 0 0, [], (ByteArray.mk #[]), 1, cr) ⟨hle, hst, RdH.nil _, ⟨by dsimp only; decide, hok.ur, by simp, by simp, by dsimp only; decide, by dsimp only; omega, hok.cr⟩⟩ ⟨rfl, rfl, rfl, rfl, rfl, trivial⟩
              · have hcb57 := hc57; try simp only [decide_eq_true_eq, decide_eq_false_iff_not] at hc57
                refine CW.skip ?_
                exact AQ.meet (_, me, ur, .slice none 0 0, [], bo, 1, cr) ⟨hle, hst, RdH.nil _, ⟨hok.me, hok.ur, by simp, by simp, hok.bo, by dsimp only; omega, hok.cr⟩⟩ ⟨rfl, rfl, rfl, rfl, rfl, trivial⟩
          · have hcb48 := hc48; try simp only [decide_eq_true_eq, decide_eq_false_iff_not] at hc48
            refine CW.skip ?_
            exact AQ.meet (_, me, ur, vh, hs, bo, 1, cr) ⟨hle, hst, hH, ⟨hok.me, hok.ur, hok.len, hok.hs, hok.bo, by dsimp only; omega, hok.cr⟩⟩ ⟨rfl, rfl, rfl, rfl, rfl, trivial⟩
        · have hcb42 := hc42; try simp only [decide_eq_true_eq, decide_eq_false_iff_not] at hc42
          refine CW.skip ?_
          exact AQ.meet (_, me, ur, vh, hs, bo, mo, cr) ⟨hle, hst, hH, hok⟩ ⟨rfl, rfl, rfl, rfl, rfl, trivial⟩
      · clear hle hst hH hok; rintro ⟨J, me, ur, vh, hs, bo, mo, cr⟩ w ⟨hle, hstn, hH, hok⟩; dsimp only at hle hstn hH hok ⊢; have hst := hstn; clear hstn; refine AQ.next ?_; refine CW.seq ?_; refine CW.seq ?_; refine CW.region ?_; refine RW.op1 rfl (runs_move rfl) ?_; refine RW.op1 rfl (runs_move rfl) ?_; refine RW.op1 rfl (runs_quo rfl rfl (by decide)) ?_; obtain ⟨q19, hq19⟩ : ∃ q, IntKind.i64.wrap (n.tdiv 19) = q := ⟨_, rfl⟩
        have hq19o : i64ok q19 := by rw [← hq19]; exact wrap_ok _
        rw [hq19]; refine RW.call rfl call6 rfl rfl (within_spec hst (v := q19) (n := 40) (hq19o) (by unfold i64ok; decide)) ?_; rintro e w ⟨rfl, hstn⟩; clear hst; have hst := hstn; clear hstn; refine ⟨_, rfl, ?_⟩; refine RW.done ?_; refine AQ.next ?_; refine CW.cut (Imm × ByteArray × ByteArray × Value × List HRow × ByteArray × Int × Int) (fun y w => I.le y.1 ∧ St w0 w y.1 ((bq, .cells #[.string y.2.1, .string y.2.2.1, y.2.2.2.1, .string y.2.2.2.2.2.1, .int .i64 y.2.2.2.2.2.2.1, .int .i64 y.2.2.2.2.2.2.2] 28) :: (b1, .cells #[.string (ByteArray.mk #[]), .string (ByteArray.mk #[]), .slice none 0 0, .string (ByteArray.mk #[]), .int .i64 0, .int .i64 0] 28) :: L) ∧ RdH y.1 y.2.2.2.1 y.2.2.2.2.1 ∧ ReqOk y.2.1 y.2.2.1 y.2.2.2.2.1 y.2.2.2.2.2.1 y.2.2.2.2.2.2.1 y.2.2.2.2.2.2.2) (fun y => [(0, .int .i64 n), (1, .string (ByteArray.mk #[])), (4, .pointer (some ⟨b1, 0, none⟩)), (5, .func (.func 6) #[] #[]), (6, .pointer (some ⟨bq, 0, none⟩))]) ?_ ?_
        · refine CW.block ?_; refine CW.seq ?_; refine CW.region ?_; refine RW.op1 rfl (runs_eqI rfl rfl) ?_; refine RW.op1 rfl (runs_assign rfl) ?_; refine RW.done ?_; refine AQ.next ?_; refine CW.cond rfl (fun hc64 => ?_) (fun hc64 => ?_)
          · have hcb64 := hc64; try simp only [decide_eq_true_eq, decide_eq_false_iff_not] at hc64
            refine CW.region ?_; refine RW.op1 rfl (runs_move rfl) ?_; refine RW.op1 rfl (runs_move rfl) ?_; refine RW.call rfl call40 rfl rfl (odd_spec18 hst n hn) ?_; rintro e w ⟨J68, ur2, hJ68, rfl, hur2, hstn⟩; clear hst; have hst := hstn; clear hstn; replace hH := hH.mono hJ68; replace hle := hle.trans hJ68; refine ⟨_, rfl, ?_⟩
            refine RW.op1 rfl (runs_fieldAddr0 rfl Tryz.underlying28 rfl ti9 (by decide)) ?_
            refine RW.opE0 (runs_store1P ti9 rfl rfl hst (k := 0) rfl rfl (NoFz.zero _) rfl) ?_
            rintro w hstn; clear hst; have hst := hstn; clear hstn; try simp only [List.set_cons_zero, List.set_cons_succ] at hst
            refine RW.done ?_; refine AQ.block_normal ?_
            exact AQ.meet (_, me, ur2, vh, hs, bo, mo, cr) ⟨hle, hst, hH, ⟨hok.me, hur2, hok.len, hok.hs, hok.bo, hok.mo, hok.cr⟩⟩ ⟨rfl, rfl, rfl, rfl, rfl, trivial⟩
          · have hcb64 := hc64; try simp only [decide_eq_true_eq, decide_eq_false_iff_not] at hc64
            refine CW.seq ?_; refine CW.region ?_; refine RW.op1 rfl (runs_eqI rfl rfl) ?_; refine RW.op1 rfl (runs_assign rfl) ?_; refine RW.done ?_; refine AQ.next ?_; refine CW.cond rfl (fun hc70 => ?_) (fun hc70 => ?_)
            · have hcb70 := hc70; try simp only [decide_eq_true_eq, decide_eq_false_iff_not] at hc70
              refine CW.region ?_; refine RW.op1 rfl (runs_move rfl) ?_; refine RW.op1 rfl (runs_move rfl) ?_; refine RW.opE rfl (runs_lit1R Tryz.underlying65 ti9 (by decide) rfl rfl rfl (by simp [Value.oneCell']) hst) ?_; rintro u23 w ⟨I23, hI23, hstn, h23⟩; clear hst; have hst := hstn; clear hstn; replace hH := hH.mono hI23; replace hle := hle.trans hI23; have hO : RdS _ u23 metoL := h23; refine RW.call rfl call24 rfl rfl (at_spec18 hst n hn hO (by decide) (by decide)) ?_; rintro e w ⟨me2, hme2, rfl, hstn⟩; clear hst; have hst := hstn; clear hstn; have hme2z := metoL_sz me2 hme2; refine ⟨_, rfl, ?_⟩
              refine RW.op1 rfl (runs_fieldAddr0 rfl Tryz.underlying28 rfl ti9 (by decide)) ?_
              refine RW.opE0 (runs_store1P ti9 rfl rfl hst (k := 0) rfl rfl (NoFz.zero _) rfl) ?_
              rintro w hstn; clear hst; have hst := hstn; clear hstn; try simp only [List.set_cons_zero, List.set_cons_succ] at hst
              refine RW.done ?_; refine AQ.block_normal ?_
              exact AQ.meet (_, me2, ur, vh, hs, bo, mo, cr) ⟨hle, hst, hH, ⟨hme2z, hok.ur, hok.len, hok.hs, hok.bo, hok.mo, hok.cr⟩⟩ ⟨rfl, rfl, rfl, rfl, rfl, trivial⟩
            · have hcb70 := hc70; try simp only [decide_eq_true_eq, decide_eq_false_iff_not] at hc70
              refine CW.seq ?_; refine CW.region ?_; refine RW.op1 rfl (runs_eqI rfl rfl) ?_; refine RW.op1 rfl (runs_assign rfl) ?_; refine RW.done ?_; refine AQ.next ?_; refine CW.cond rfl (fun hc77 => ?_) (fun hc77 => ?_)
              · have hcb77 := hc77; try simp only [decide_eq_true_eq, decide_eq_false_iff_not] at hc77
                refine CW.region ?_; refine RW.op1 rfl (runs_move rfl) ?_; refine RW.op1 rfl (runs_move rfl) ?_; refine RW.call rfl call6 rfl rfl (within_spec hst (v := n) (n := 40) (hn) (by unfold i64ok; decide)) ?_; rintro e w ⟨rfl, hstn⟩; clear hst; have hst := hstn; clear hstn; have rc81 := within_range n 40; have rc81t := rc81.2 (by decide); obtain ⟨c81, hc81⟩ : ∃ z, within n 40 = z := ⟨_, rfl⟩; rw [hc81] at rc81 rc81t ⊢; refine ⟨_, rfl, ?_⟩; refine RW.call rfl call25 rfl rfl (bytes_spec hst 98 c81 (by unfold i64ok; decide) (by omega)) ?_; rintro e w ⟨J82, v82, hJ82, rfl, hstn, hv82⟩; clear hst; have hst := hstn; clear hstn; replace hH := hH.mono hJ82; replace hle := hle.trans hJ82; refine ⟨_, rfl, ?_⟩; refine RW.op1 rfl (RdB.string Tryz.underlying37 Tryz.underlying5 Tryz.underlying9 rfl hv82 hst) ?_; have hz82 := bytes_sz 98 c81 (by omega); obtain ⟨bo82, hbo82⟩ : ∃ x, strOf (bytesOf 98 c81) = x := ⟨_, rfl⟩; rw [hbo82] at hz82 ⊢
                refine RW.op1 rfl (runs_fieldAddr0 rfl Tryz.underlying28 rfl ti9 (by decide)) ?_
                refine RW.opE0 (runs_store1P ti9 rfl rfl hst (k := 0) rfl rfl (NoFz.zero _) rfl) ?_
                rintro w hstn; clear hst; have hst := hstn; clear hstn; try simp only [List.set_cons_zero, List.set_cons_succ] at hst
                refine RW.done ?_; refine AQ.block_normal ?_
                exact AQ.meet (_, me, ur, vh, hs, bo82, mo, cr) ⟨hle, hst, hH, ⟨hok.me, hok.ur, hok.len, hok.hs, hz82, hok.mo, hok.cr⟩⟩ ⟨rfl, rfl, rfl, rfl, rfl, trivial⟩
              · have hcb77 := hc77; try simp only [decide_eq_true_eq, decide_eq_false_iff_not] at hc77
                refine CW.seq ?_; refine CW.region ?_; refine RW.op1 rfl (runs_eqI rfl rfl) ?_; refine RW.op1 rfl (runs_assign rfl) ?_; refine RW.done ?_; refine AQ.next ?_; refine CW.cond rfl (fun hc85 => ?_) (fun hc85 => ?_)
                · have hcb85 := hc85; try simp only [decide_eq_true_eq, decide_eq_false_iff_not] at hc85
                  refine CW.region ?_; refine RW.op1 rfl (runs_move rfl) ?_; refine RW.op1 rfl (runs_move rfl) ?_; refine RW.call rfl call6 rfl rfl (within_spec hst (v := n) (n := 5) (hn) (by unfold i64ok; decide)) ?_; rintro e w ⟨rfl, hstn⟩; clear hst; have hst := hstn; clear hstn; have rc89 := within_range n 5; have rc89t := rc89.2 (by decide); obtain ⟨c89, hc89⟩ : ∃ z, within n 5 = z := ⟨_, rfl⟩; rw [hc89] at rc89 rc89t ⊢; refine ⟨_, rfl, ?_⟩
                  refine RW.op1 rfl (runs_fieldAddr0 rfl Tryz.underlying28 rfl ti3 (by decide)) ?_
                  refine RW.opE0 (runs_store1P ti3 rfl rfl hst (k := 0) rfl rfl (NoFz.zero _) rfl) ?_
                  rintro w hstn; clear hst; have hst := hstn; clear hstn; try simp only [List.set_cons_zero, List.set_cons_succ] at hst
                  refine RW.done ?_; refine AQ.block_normal ?_
                  exact AQ.meet (_, me, ur, vh, hs, bo, c89, cr) ⟨hle, hst, hH, ⟨hok.me, hok.ur, hok.len, hok.hs, hok.bo, by dsimp only; omega, hok.cr⟩⟩ ⟨rfl, rfl, rfl, rfl, rfl, trivial⟩
                · have hcb85 := hc85; try simp only [decide_eq_true_eq, decide_eq_false_iff_not] at hc85
                  refine CW.seq ?_; refine CW.region ?_; refine RW.op1 rfl (runs_eqI rfl rfl) ?_; refine RW.op1 rfl (runs_assign rfl) ?_; refine RW.done ?_; refine AQ.next ?_; refine CW.cond rfl (fun hc91 => ?_) (fun hc91 => ?_)
                  · have hcb91 := hc91; try simp only [decide_eq_true_eq, decide_eq_false_iff_not] at hc91
                    refine CW.region ?_; refine RW.op1 rfl (runs_move rfl) ?_; refine RW.op1 rfl (runs_move rfl) ?_; refine RW.call rfl call6 rfl rfl (within_spec hst (v := n) (n := 6) (hn) (by unfold i64ok; decide)) ?_; rintro e w ⟨rfl, hstn⟩; clear hst; have hst := hstn; clear hstn; have rc95 := within_range n 6; have rc95t := rc95.2 (by decide); obtain ⟨c95, hc95⟩ : ∃ z, within n 6 = z := ⟨_, rfl⟩; rw [hc95] at rc95 rc95t ⊢; refine ⟨_, rfl, ?_⟩; refine RW.op1 rfl (runs_sub rfl rfl (by omega)) ?_; obtain ⟨cr2, hcr2⟩ : ∃ z, c95 - 1 = z := ⟨_, rfl⟩; rw [hcr2]
                    refine RW.op1 rfl (runs_fieldAddr0 rfl Tryz.underlying28 rfl ti3 (by decide)) ?_
                    refine RW.opE0 (runs_store1P ti3 rfl rfl hst (k := 0) rfl rfl (NoFz.zero _) rfl) ?_
                    rintro w hstn; clear hst; have hst := hstn; clear hstn; try simp only [List.set_cons_zero, List.set_cons_succ] at hst
                    refine RW.done ?_; refine AQ.block_normal ?_
                    exact AQ.meet (_, me, ur, vh, hs, bo, mo, cr2) ⟨hle, hst, hH, ⟨hok.me, hok.ur, hok.len, hok.hs, hok.bo, hok.mo, by dsimp only; omega⟩⟩ ⟨rfl, rfl, rfl, rfl, rfl, trivial⟩
                  · have hcb91 := hc91; try simp only [decide_eq_true_eq, decide_eq_false_iff_not] at hc91
                    refine CW.seq ?_; refine CW.region ?_; refine RW.op1 rfl (runs_eqI rfl rfl) ?_; refine RW.op1 rfl (runs_assign rfl) ?_; refine RW.done ?_; refine AQ.next ?_; refine CW.cond rfl (fun hc98 => ?_) (fun hc98 => ?_)
                    · have hcb98 := hc98; try simp only [decide_eq_true_eq, decide_eq_false_iff_not] at hc98
                      refine CW.region ?_; refine RW.op1 rfl (runs_move rfl) ?_; refine RW.op1 rfl (runs_move rfl) ?_; refine RW.call rfl call39 rfl rfl (heads_spec hst n hn _) ?_; rintro e w ⟨J102, vh2, hs2, hJ102, rfl, hstn, hH2, hHd2⟩; clear hst; have hst := hstn; clear hstn
                      obtain ⟨Ah, ch, rfl⟩ : ∃ A c, vh2 = .slice A hs2.length c := by obtain ⟨_, _, A, c, e, _, _⟩ := hH2; exact ⟨A, c, e⟩
                      replace hH := hH.mono hJ102; replace hle := hle.trans hJ102; refine ⟨_, rfl, ?_⟩
                      refine RW.op1 rfl (runs_fieldAddr0 rfl Tryz.underlying28 rfl ti26 (by decide)) ?_
                      refine RW.opE0 (runs_store1P ti26 rfl rfl hst (k := 0) rfl rfl (NoFz.zero _) rfl) ?_
                      rintro w hstn; clear hst; have hst := hstn; clear hstn; try simp only [List.set_cons_zero, List.set_cons_succ] at hst
                      refine RW.done ?_; refine AQ.block_normal ?_
                      exact AQ.meet (_, me, ur, _, hs2, bo, mo, cr) ⟨hle, hst, hH2, ⟨hok.me, hok.ur, hHd2.1, hHd2.sz, hok.bo, hok.mo, hok.cr⟩⟩ ⟨rfl, rfl, rfl, rfl, rfl, trivial⟩
                    · have hcb98 := hc98; try simp only [decide_eq_true_eq, decide_eq_false_iff_not] at hc98
                      refine CW.skip ?_; refine AQ.block_normal ?_
                      exact AQ.meet (_, me, ur, vh, hs, bo, mo, cr) ⟨hle, hst, hH, hok⟩ ⟨rfl, rfl, rfl, rfl, rfl, trivial⟩
        · clear hle hst hH hok; rintro ⟨J, me, ur, vh, hs, bo, mo, cr⟩ w ⟨hle, hstn, hH, hok⟩; dsimp only at hle hstn hH hok ⊢; have hst := hstn; clear hstn; refine AQ.next ?_; refine CW.seq ?_; refine CW.region ?_
          refine RW.op1 rfl (runs_loadN (vs := [_, _, _, _, _, _]) ag28 ti28 rfl hst (k := 0) rfl rfl rfl) ?_
          refine RW.opE0 (runs_storeW ti28 rfl rfl hst (k := 1) rfl rfl rfl (NoFz.zero _) (req_one hH.one)) ?_; rintro w hstn; clear hst; have hst := hstn; clear hstn; try simp only [List.set_cons_zero, List.set_cons_succ] at hst
          refine RW.done ?_; refine AQ.next ?_; refine CW.ret ?_; refine AQ.retS rfl rfl (hst.loadN (vs := [_, _, _, _, _, _]) (k := 1) ag28 ti28 rfl rfl rfl) ?_; exact ⟨_, me, ur, vh, hs, bo, mo, cr, hle, rfl, hst.drop1.drop1, hH, hok⟩
end Go.Proofs.YtlmmpcdjkpibcaaGreatX
