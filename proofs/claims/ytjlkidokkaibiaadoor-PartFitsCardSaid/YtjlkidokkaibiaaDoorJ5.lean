/- Numbers written out by the library; what asks for the rest: what these come to. -/
import Derived.Test.YtjlkidokkaibiaaDoorT
import Derived.Test.YtjlkidokkaibiaaDoorJ4
import Derived.Test.YtjlkidokkaibiaaDoorSH
namespace Go.Proofs.YtjlkidokkaibiaaDoorX
set_option linter.unusedVariables false
set_option linter.unusedSimpArgs false
open Go Go.RowKit Go.Proofs

/-- The library's table of powers of ten stands in blocks that nobody writes. -/
def TabK (I : Imm) : Prop := ∃ g T fz, Tryd.prog.globalNamed "internal/strconv.uint64pow10" = some g ∧ I g = some (.cells (Lib.pow10Tab.map fun z => Value.int .u64 z).toArray T fz)
theorem TabK.mono {I I' : Imm} (hI : I.le I') (h : TabK I) : TabK I' := let ⟨g, T, fz, h1, h2⟩ := h; ⟨g, T, fz, h1, hI _ _ h2⟩
theorem TabK.is {w0 w : World} {I : Imm} {L : Own} (h : TabK I) (hst : St w0 w I L) : Lib.TabIs Tryd.prog w "internal/strconv.uint64pow10" .u64 Lib.pow10Tab := by
  obtain ⟨g, T, fz, h1, h2⟩ := h
  unfold Lib.TabIs World.var?
  rw [h1]
  show (match w.heap[g]? with | some (.cells cs _ _) => some cs | _ => none) = _
  rw [hst.imm _ _ h2]
theorem St.drawnN {w0 w : World} {I : Imm} {L : Own} (h : St w0 w I L) (k : Nat) : St w0 (w.drewN k) I L := ⟨h.os, h.tape, h.out, h.imm, h.own, h.sep, h.nd⟩
theorem St.grown {w0 w : World} {I : Imm} {L : Own} (h : St w0 w I L) (os : Array Obj) : St w0 (Sort.grow w os) I L :=
  ⟨h.os, h.tape, h.out, fun b o hb => by show (w.heap ++ os)[b]? = _; rw [Array.getElem?_append_left (h.lt hb)]; exact h.imm b o hb,
    fun p hp => by show (w.heap ++ os)[p.1]? = _; rw [Array.getElem?_append_left (h.lt_own hp)]; exact h.own p hp, h.sep, h.nd⟩
theorem itoa_spec {w0 w : World} {I : Imm} {L : Own} (hst : St w0 w I L) (hT : TabK I) (n : Int) (h0 : 1 ≤ n) (h1 : n ≤ 9223372036854775807) :
    Calls Tryd.prog 27 #[.int .i64 n] w fun e w' => e = .returned (.string (strOf (Lib.decDigits n.toNat))) ∧ St w0 w' I L := by
  refine (Tryd.strconv_Itoa n (by omega) h1 w (hT.is hst)).mono ?_
  rintro e w' ⟨rfl, k, os, rfl⟩
  refine ⟨?_, (hst.drawnN k).grown os⟩
  unfold Lib.itoa
  rw [if_neg (by omega)]
  rfl
theorem digits_len : ∀ (f n : Nat), n < 10 ^ f → (Lib.decDigits n).length ≤ f + 1
  | 0, n, h => by
    unfold Lib.decDigits
    rw [dif_pos (by simp at h; omega)]
    simp
  | f + 1, n, h => by
    unfold Lib.decDigits
    split
    · simp
    · have := digits_len f (n / 10) (by rw [Nat.pow_succ] at h; omega)
      simp; omega
theorem digits_room {n : Int} (h0 : 1 ≤ n) (h1 : n ≤ 9223372036854775807) : (Lib.decDigits n.toNat).length ≤ 20 := digits_len 19 n.toNat (by omega)
def rangeN : ByteArray := ⟨#[82, 97, 110, 103, 101]⟩
def ifN : ByteArray := ⟨#[73, 102, 45, 82, 97, 110, 103, 101]⟩
def bytesE : ByteArray := ⟨#[98, 121, 116, 101, 115, 61]⟩
def rangeV (n : Int) : ByteArray := bytesE ++ strOf (Lib.decDigits n.toNat) ++ ⟨#[45]⟩
def rheadsR (got : Int) (tag : ByteArray) : List HRow := if got < 1 ∨ (tag.toList == ([] : List UInt8)) = true then [] else [(rangeN, rangeV got), (ifN, tag)]
set_option maxRecDepth 100000 in
set_option maxHeartbeats 1000000 in
theorem heads_spec {w0 w : World} {I : Imm} {L : Own} (hst : St w0 w I L) (hT : TabK I) (got : Int) (hg : got ≤ 9223372036854775807) (tag : ByteArray) :
    Calls Tryd.prog 10 #[.int .i64 got, .string tag] w fun e w' => ∃ I' v, Imm.le I I' ∧ e = .returned v ∧ RdH I' v (rheadsR got tag) ∧ St w0 w' I' L := by
  refine enter Tryd.func10 rfl (N := 19) rfl rfl ?_
  simp only [List.zipIdx_cons, List.zipIdx_nil, List.map_cons, List.map_nil, Nat.zero_add, Nat.reduceAdd]
  have hle := Imm.le.refl I
  refine CW.seq ?_
  -- region 0
  refine CW.region ?_
  refine RW.op1 rfl (runs_assign rfl) ?_
  refine RW.done ?_
  refine AQ.next ?_
  refine CW.seq ?_
  refine CW.seq ?_
  -- region 1
  refine CW.region ?_
  refine RW.op1 rfl (runs_move rfl) ?_
  refine RW.op1 rfl (runs_lss rfl rfl) ?_
  refine RW.op1 rfl (runs_move rfl) ?_
  refine RW.split (t := 7) rfl (fun hb7 => ?_) (fun hb7 => ?_)
  · have hb7p := hb7
    try simp only [decide_eq_true_eq, decide_eq_false_iff_not] at hb7p
    skip
    refine RW.off_guard rfl rfl rfl rfl hb7 ?_
    refine RW.off_guard rfl rfl rfl rfl hb7 ?_
    refine RW.op1 rfl (runs_pick_true rfl hb7 rfl) ?_
    refine RW.done ?_
    refine AQ.next ?_
    refine CW.cond_true rfl ?_
    refine CW.seq ?_
    -- region 2
    refine CW.region ?_
    refine RW.op1 rfl (runs_assign rfl) ?_
    refine RW.done ?_
    refine AQ.next ?_
    refine CW.ret ?_
    refine AQ.past_ret ?_
    refine AQ.ret1 rfl rfl ?_
    have h0 : rheadsR got tag = [] := if_pos (.inl hb7p)
    rw [h0]
    exact ⟨_, _, hle, rfl, RdL.nil 2, hst⟩
  · have hb7p := hb7
    try simp only [decide_eq_true_eq, decide_eq_false_iff_not] at hb7p
    have hdr := digits_room (n := got) (by omega) hg
    refine RW.on_guard rfl rfl rfl rfl hb7 ?_
    refine RW.op1 rfl (runs_move rfl) ?_
    refine RW.on_guard rfl rfl rfl rfl hb7 ?_
    refine RW.op1 rfl (runs_eqS rfl rfl) ?_
    refine RW.op1 rfl (runs_pick_false rfl hb7 rfl) ?_
    refine RW.done ?_
    refine AQ.next ?_
    refine CW.cond rfl (fun hc10 => ?_) (fun hc10 => ?_)
    · have hcb10 := hc10
      try simp only [decide_eq_true_eq, decide_eq_false_iff_not] at hc10
      refine CW.seq ?_
      -- region 2
      refine CW.region ?_
      refine RW.op1 rfl (runs_assign rfl) ?_
      refine RW.done ?_
      refine AQ.next ?_
      refine CW.ret ?_
      refine AQ.past_ret ?_
      refine AQ.ret1 rfl rfl ?_
      have h0 : rheadsR got tag = [] := if_pos (.inr (by simpa [emptyL] using hc10))
      rw [h0]
      exact ⟨_, _, hle, rfl, RdL.nil 2, hst⟩
    · have hcb10 := hc10
      try simp only [decide_eq_true_eq, decide_eq_false_iff_not] at hc10
      refine CW.skip ?_
      refine AQ.next ?_
      refine CW.seq ?_
      -- region 3
      refine CW.region ?_
      refine RW.op1 rfl (runs_move rfl) ?_
      refine RW.call rfl call27 rfl rfl (itoa_spec hst hT got (by omega) hg) ?_
      rintro e w ⟨rfl, hstn⟩
      clear hst
      have hst := hstn
      clear hstn
      refine ⟨_, rfl, ?_⟩
      refine RW.op1 rfl (runs_addS (a := bytesE) rfl rfl (by rw [strOfZ]; show 6 + _ ≤ _; omega)) ?_
      refine RW.op1 rfl (runs_addS rfl rfl (by rw [ByteArray.size_append, strOfZ]; show 6 + _ + 1 ≤ _; omega)) ?_
      refine RW.op1 rfl (runs_buildF (cells := [_, _]) bz26 rfl rfl rfl rfl rfl) ?_
      refine RW.op1 rfl (runs_move rfl) ?_
      refine RW.op1 rfl (runs_buildF (cells := [_, _]) bz26 rfl rfl rfl rfl rfl) ?_
      refine RW.opE rfl (runs_litF (xs := [.agg #[_, _], .agg #[_, _]]) Tryd.underlying31 ti26 (by decide) rfl rfl rfl rfl rfl hst (by decide)) ?_
      rintro u2 w ⟨Lv2, hstn, hg2⟩
      clear hst
      have hst := hstn
      clear hstn
      obtain ⟨J2, hJ2, hstn, h2⟩ := Grow.freeze hg2 hst
      clear hst
      have hst := hstn
      clear hstn
      replace hle := hle.trans hJ2
      try simp only [List.nil_append] at h2
      replace h2 : RdH _ u2 [(rangeN, rangeV got), (ifN, tag)] := h2
      have hR := h2
      refine RW.op1 rfl (runs_assign rfl) ?_
      refine RW.done ?_
      refine AQ.next ?_
      refine CW.ret ?_
      refine AQ.ret1 rfl rfl ?_
      have h0 : rheadsR got tag = [(rangeN, rangeV got), (ifN, tag)] := if_neg (by simp_all [emptyL] <;> omega)
      rw [h0]
      exact ⟨_, _, hle, rfl, hR, hst⟩
end Go.Proofs.YtjlkidokkaibiaaDoorX
