/- A record read: what this comes to; the chapter's example. -/
import Derived.Test.YthocicjjighbnaaT
import Derived.Test.YthocicjjighbnaaR3
namespace Go.Proofs.YthocicjjighbnaaX
set_option linter.unusedVariables false
set_option linter.unusedSimpArgs false
open Go Go.RowKit Go.Proofs

/-- How a record's gathered bytes are read. -/
def readEnd (at_ : Int) (ge gq : Int) (gb : List UInt8) (parts ger : Int) : Int × Int × List UInt8 × Int × Int :=
  if ger ≠ 0 then (0, 0, [], 0, ger) else if gb.length < 4 ∨ ((needN (gb.length - 4) : Nat) : Int) ≠ parts ∨ wholeB (gb.drop 4) ≠ gb then (0, 0, [], 0, 2) else (ge, gq, gb.drop 4, at_ + parts, 0)
def FrR (S : DS) (at_ end_ : Int) (r : Int × Int × List UInt8 × Int × Int) : Prop :=
  if at_ < 0 ∨ end_ ≤ at_ ∨ (S.secs.length : Int) < end_ then r = (0, 0, [], 0, 9) else ∃ ge gq gb parts ger, GatherR S at_ end_ ge gq gb parts ger ∧ r = readEnd at_ ge gq gb parts ger
theorem gather_len {S : DS} (h : DOk S) {at_ end_ e q parts er : Int} {b : List UInt8} (h0 : 0 ≤ at_ ∧ at_ < end_ ∧ end_ ≤ S.secs.length) (hg : GatherR S at_ end_ e q b parts er) : b.length ≤ 8160 ∧ 0 ≤ parts ∧ parts ≤ 255 := by
  have hn0 := openR_nlim (readR S (at_ + ((0 : Nat) : Int)))
  rcases hg with ⟨_, _, _, rfl, rfl, _⟩ | ⟨_, ⟨n, h1, h2, h3, _, _, rfl, rfl, _⟩ | ⟨k, _, _, _, _, _, rfl, rfl, _⟩⟩
  · exact ⟨Nat.zero_le _, by omega, by omega⟩
  · have hn : (n : Int) ≤ 255 := by rw [← h2]; exact hn0.2
    have := gB_len h (at_ := at_) n (fun j hj => by have := (h3 j hj).1; omega)
    exact ⟨by omega, by omega, by omega⟩
  · exact ⟨Nat.zero_le _, by omega, by omega⟩
set_option maxRecDepth 100000 in
set_option maxHeartbeats 1000000 in
theorem fread_spec {w0 w : World} {I : Imm} {L Ld : Own} {d : Value} {S : DS} (hd : DiskO d S Ld) (hst : St w0 w I (Ld ++ L)) (at_ end_ : Int) :
    Calls Try.prog 45 #[d, .int .i64 at_, .int .i64 end_] w fun r w' => ∃ I' v' e q b next er, Imm.le I I' ∧ r = .returned (.tuple #[.agg #[.int .i64 e, .int .i64 q], v', .int .i64 next, .int .i64 er]) ∧ St w0 w' I' (Ld ++ L) ∧ RdB I' v' b ∧ FrR S at_ end_ (e, q, b, next, er) := by
  have hok : DOk S := by obtain ⟨_, _, _, _, _, _, _, _, _, hok⟩ := hd; exact hok
  have hsl := hok.1
  refine enter Try.func45 rfl (N := 65) rfl rfl ?_
  simp only [List.zipIdx_cons, List.zipIdx_nil, List.map_cons, List.map_nil, Nat.zero_add, Nat.reduceAdd]
  have hle := Imm.le.refl I
  refine CW.seq ?_
  -- region 0
  refine CW.region ?_
  refine RW.opE rfl (runs_alloc ti38 hst) ?_
  rintro _ w ⟨b1, rfl, hstn⟩
  clear hst
  have hst := hstn
  clear hstn
  refine RW.op1 rfl (runs_assign rfl) ?_
  refine RW.op1 rfl (runs_assign rfl) ?_
  refine RW.op1 rfl (runs_assign rfl) ?_
  refine RW.done ?_
  refine AQ.next ?_
  refine CW.seq ?_
  refine CW.seq ?_
  -- region 1
  refine CW.region ?_
  refine RW.op1 rfl (runs_move rfl) ?_
  refine RW.op1 rfl (runs_lss rfl rfl) ?_
  refine RW.op1 rfl (runs_move rfl) ?_
  refine RW.split (t := 14) rfl (fun hb14 => ?_) (fun hb14 => ?_)
  · have hb14p := hb14
    try simp only [decide_eq_true_eq, decide_eq_false_iff_not] at hb14p
    refine RW.off_guard rfl rfl rfl rfl hb14 ?_
    refine RW.off_guard rfl rfl rfl rfl hb14 ?_
    refine RW.off_guard rfl rfl rfl rfl hb14 ?_
    refine RW.op1 rfl (runs_pick_true rfl hb14 rfl) ?_
    refine RW.op1 rfl (runs_move rfl) ?_
    refine RW.off_guard rfl rfl rfl rfl rfl ?_
    refine RW.off_guard rfl rfl rfl rfl rfl ?_
    refine RW.off_guard rfl rfl rfl rfl rfl ?_
    refine RW.off_guard rfl rfl rfl rfl rfl ?_
    refine RW.op1 rfl (runs_pick_true rfl rfl rfl) ?_
    refine RW.done ?_
    refine AQ.next ?_
    skip
    refine CW.cond_true rfl ?_
    refine CW.seq ?_
    -- region 2
    refine CW.region ?_
    refine RW.op1 rfl (runs_buildF (cells := [_, _]) bz38 rfl rfl rfl rfl rfl) ?_
    first
      | refine RW.opE0 (runs_storeW ti38 rfl rfl hst (k := 0) rfl rfl rfl (NoFz.zero _) rfl) ?_
      | refine RW.opE0 (runs_storeP ti38 rfl rfl hst (k := 0) rfl rfl rfl (NoFz.zero _) rfl) ?_
      | refine RW.opE0 (runs_storeW ti38 rfl rfl hst (k := 1) rfl rfl rfl (NoFz.zero _) rfl) ?_
      | refine RW.opE0 (runs_storeP ti38 rfl rfl hst (k := 1) rfl rfl rfl (NoFz.zero _) rfl) ?_
      | refine RW.opE0 (runs_storeW ti38 rfl rfl hst (k := 2) rfl rfl rfl (NoFz.zero _) rfl) ?_
      | refine RW.opE0 (runs_storeP ti38 rfl rfl hst (k := 2) rfl rfl rfl (NoFz.zero _) rfl) ?_
    rintro w hstn
    clear hst
    have hst := hstn
    clear hstn
    try simp only [List.set_cons_zero, List.set_cons_succ] at hst
    refine RW.op1 rfl (runs_assign rfl) ?_
    refine RW.op1 rfl (runs_assign rfl) ?_
    refine RW.op1 rfl (runs_assign rfl) ?_
    refine RW.done ?_
    refine AQ.next ?_
    refine CW.ret ?_
    refine AQ.past_ret ?_
    refine AQ.retL (rs := [.cell 6 38, .tmp 7, .tmp 8, .tmp 9]) (vs := [_, _, _, _]) rfl ⟨⟨_, rfl, hst.loadN (vs := [_, _]) (k := 0) ag38 ti38 rfl rfl rfl⟩, rfl, rfl, rfl, trivial⟩ (by simp) ?_
    exact ⟨_, _, 0, 0, [], 0, 9, hle, rfl, hst.drop1, RdL.nil 1, by unfold FrR; rw [if_pos (by omega)]⟩
  · have hb14p := hb14
    try simp only [decide_eq_true_eq, decide_eq_false_iff_not] at hb14p
    refine RW.on_guard rfl rfl rfl rfl hb14 ?_
    refine RW.op1 rfl (runs_move rfl) ?_
    refine RW.on_guard rfl rfl rfl rfl hb14 ?_
    refine RW.op1 rfl (runs_move rfl) ?_
    refine RW.on_guard rfl rfl rfl rfl hb14 ?_
    refine RW.op1 rfl (runs_geq rfl rfl) ?_
    refine RW.op1 rfl (runs_pick_false rfl hb14 rfl) ?_
    refine RW.op1 rfl (runs_move rfl) ?_
    refine RW.split (t := 19) rfl (fun hb19 => ?_) (fun hb19 => ?_)
    · have hb19p := hb19
      try simp only [decide_eq_true_eq, decide_eq_false_iff_not] at hb19p
      refine RW.off_guard rfl rfl rfl rfl hb19 ?_
      refine RW.off_guard rfl rfl rfl rfl hb19 ?_
      refine RW.off_guard rfl rfl rfl rfl hb19 ?_
      refine RW.off_guard rfl rfl rfl rfl hb19 ?_
      refine RW.op1 rfl (runs_pick_true rfl hb19 rfl) ?_
      refine RW.done ?_
      refine AQ.next ?_
      skip
      refine CW.cond_true rfl ?_
      refine CW.seq ?_
      -- region 2
      refine CW.region ?_
      refine RW.op1 rfl (runs_buildF (cells := [_, _]) bz38 rfl rfl rfl rfl rfl) ?_
      first
        | refine RW.opE0 (runs_storeW ti38 rfl rfl hst (k := 0) rfl rfl rfl (NoFz.zero _) rfl) ?_
        | refine RW.opE0 (runs_storeP ti38 rfl rfl hst (k := 0) rfl rfl rfl (NoFz.zero _) rfl) ?_
        | refine RW.opE0 (runs_storeW ti38 rfl rfl hst (k := 1) rfl rfl rfl (NoFz.zero _) rfl) ?_
        | refine RW.opE0 (runs_storeP ti38 rfl rfl hst (k := 1) rfl rfl rfl (NoFz.zero _) rfl) ?_
        | refine RW.opE0 (runs_storeW ti38 rfl rfl hst (k := 2) rfl rfl rfl (NoFz.zero _) rfl) ?_
        | refine RW.opE0 (runs_storeP ti38 rfl rfl hst (k := 2) rfl rfl rfl (NoFz.zero _) rfl) ?_
      rintro w hstn
      clear hst
      have hst := hstn
      clear hstn
      try simp only [List.set_cons_zero, List.set_cons_succ] at hst
      refine RW.op1 rfl (runs_assign rfl) ?_
      refine RW.op1 rfl (runs_assign rfl) ?_
      refine RW.op1 rfl (runs_assign rfl) ?_
      refine RW.done ?_
      refine AQ.next ?_
      refine CW.ret ?_
      refine AQ.past_ret ?_
      refine AQ.retL (rs := [.cell 6 38, .tmp 7, .tmp 8, .tmp 9]) (vs := [_, _, _, _]) rfl ⟨⟨_, rfl, hst.loadN (vs := [_, _]) (k := 0) ag38 ti38 rfl rfl rfl⟩, rfl, rfl, rfl, trivial⟩ (by simp) ?_
      exact ⟨_, _, 0, 0, [], 0, 9, hle, rfl, hst.drop1, RdL.nil 1, by unfold FrR; rw [if_pos (by omega)]⟩
    · have hb19p := hb19
      try simp only [decide_eq_true_eq, decide_eq_false_iff_not] at hb19p
      refine RW.on_guard rfl rfl rfl rfl hb19 ?_
      refine RW.op1 rfl (runs_move rfl) ?_
      refine RW.on_guard rfl rfl rfl rfl hb19 ?_
      refine RW.op1 rfl (runs_move rfl) ?_
      refine RW.on_guard rfl rfl rfl rfl hb19 ?_
      refine RW.call rfl call30 rfl rfl (len_spec hd (hst.perm List.perm_middle.symm)) ?_
      rintro e w ⟨rfl, hstn⟩
      clear hst
      have hst := hstn
      clear hstn
      replace hst := hst.perm List.perm_middle
      refine ⟨_, rfl, ?_⟩
      refine RW.on_guard rfl rfl rfl rfl hb19 ?_
      refine RW.op1 rfl (runs_gtr rfl rfl) ?_
      refine RW.op1 rfl (runs_pick_false rfl hb19 rfl) ?_
      refine RW.done ?_
      refine AQ.next ?_
      refine CW.cond rfl (fun hc24 => ?_) (fun hc24 => ?_)
      · have hcb24 := hc24
        try simp only [decide_eq_true_eq, decide_eq_false_iff_not] at hc24
        skip
        refine CW.seq ?_
        -- region 2
        refine CW.region ?_
        refine RW.op1 rfl (runs_buildF (cells := [_, _]) bz38 rfl rfl rfl rfl rfl) ?_
        first
          | refine RW.opE0 (runs_storeW ti38 rfl rfl hst (k := 0) rfl rfl rfl (NoFz.zero _) rfl) ?_
          | refine RW.opE0 (runs_storeP ti38 rfl rfl hst (k := 0) rfl rfl rfl (NoFz.zero _) rfl) ?_
          | refine RW.opE0 (runs_storeW ti38 rfl rfl hst (k := 1) rfl rfl rfl (NoFz.zero _) rfl) ?_
          | refine RW.opE0 (runs_storeP ti38 rfl rfl hst (k := 1) rfl rfl rfl (NoFz.zero _) rfl) ?_
          | refine RW.opE0 (runs_storeW ti38 rfl rfl hst (k := 2) rfl rfl rfl (NoFz.zero _) rfl) ?_
          | refine RW.opE0 (runs_storeP ti38 rfl rfl hst (k := 2) rfl rfl rfl (NoFz.zero _) rfl) ?_
        rintro w hstn
        clear hst
        have hst := hstn
        clear hstn
        try simp only [List.set_cons_zero, List.set_cons_succ] at hst
        refine RW.op1 rfl (runs_assign rfl) ?_
        refine RW.op1 rfl (runs_assign rfl) ?_
        refine RW.op1 rfl (runs_assign rfl) ?_
        refine RW.done ?_
        refine AQ.next ?_
        refine CW.ret ?_
        refine AQ.past_ret ?_
        refine AQ.retL (rs := [.cell 6 38, .tmp 7, .tmp 8, .tmp 9]) (vs := [_, _, _, _]) rfl ⟨⟨_, rfl, hst.loadN (vs := [_, _]) (k := 0) ag38 ti38 rfl rfl rfl⟩, rfl, rfl, rfl, trivial⟩ (by simp) ?_
        exact ⟨_, _, 0, 0, [], 0, 9, hle, rfl, hst.drop1, RdL.nil 1, by unfold FrR; rw [if_pos (by omega)]⟩
      · have hcb24 := hc24
        try simp only [decide_eq_true_eq, decide_eq_false_iff_not] at hc24
        have h0 : 0 ≤ at_ ∧ at_ < end_ ∧ end_ ≤ S.secs.length := by omega
        refine CW.skip ?_
        refine AQ.next ?_
        refine CW.seq ?_
        -- region 3
        refine CW.region ?_
        refine RW.op1 rfl (runs_move rfl) ?_
        refine RW.op1 rfl (runs_move rfl) ?_
        refine RW.op1 rfl (runs_move rfl) ?_
        refine RW.call rfl call51 rfl rfl (gather_spec hd (hst.perm List.perm_middle.symm) at_ end_ h0) ?_
        rintro e w ⟨I6, vG, ge, gq, gb, pn, ger, hI6, rfl, hstn, hG, hgr⟩
        clear hst
        have hst := hstn
        clear hstn
        replace hst := hst.perm List.perm_middle
        obtain ⟨hgl, hp0, hp1⟩ := gather_len hok h0 hgr
        have hfr : ∀ r, r = readEnd at_ ge gq gb pn ger → FrR S at_ end_ r := by
          intro r hr
          unfold FrR
          rw [if_neg (by omega)]
          exact ⟨ge, gq, gb, pn, ger, hgr, hr⟩
        replace hle := hle.trans hI6
        refine ⟨_, rfl, ?_⟩
        refine RW.op1 rfl (runs_move rfl) ?_
        refine RW.op1 rfl (runs_extract rfl rfl) ?_
        refine RW.op1 rfl (runs_extract rfl rfl) ?_
        refine RW.op1 rfl (runs_extract rfl rfl) ?_
        refine RW.op1 rfl (runs_extract rfl rfl) ?_
        first
          | refine RW.opE0 (runs_storeW ti38 rfl rfl hst (k := 0) rfl rfl rfl (NoFz.zero _) rfl) ?_
          | refine RW.opE0 (runs_storeP ti38 rfl rfl hst (k := 0) rfl rfl rfl (NoFz.zero _) rfl) ?_
          | refine RW.opE0 (runs_storeW ti38 rfl rfl hst (k := 1) rfl rfl rfl (NoFz.zero _) rfl) ?_
          | refine RW.opE0 (runs_storeP ti38 rfl rfl hst (k := 1) rfl rfl rfl (NoFz.zero _) rfl) ?_
          | refine RW.opE0 (runs_storeW ti38 rfl rfl hst (k := 2) rfl rfl rfl (NoFz.zero _) rfl) ?_
          | refine RW.opE0 (runs_storeP ti38 rfl rfl hst (k := 2) rfl rfl rfl (NoFz.zero _) rfl) ?_
        rintro w hstn
        clear hst
        have hst := hstn
        clear hstn
        try simp only [List.set_cons_zero, List.set_cons_succ] at hst
        refine RW.op1 rfl (runs_assign rfl) ?_
        refine RW.op1 rfl (runs_assign rfl) ?_
        refine RW.op1 rfl (runs_assign rfl) ?_
        refine RW.done ?_
        refine AQ.next ?_
        refine CW.seq ?_
        refine CW.seq ?_
        -- region 4
        refine CW.region ?_
        refine RW.op1 rfl (runs_move rfl) ?_
        refine RW.op1 rfl (runs_neI rfl rfl) ?_
        refine RW.done ?_
        refine AQ.next ?_
        refine CW.cond rfl (fun hc36 => ?_) (fun hc36 => ?_)
        · have hcb36 := hc36
          try simp only [decide_eq_true_eq, decide_eq_false_iff_not] at hc36
          refine CW.seq ?_
          -- region 5
          refine CW.region ?_
          refine RW.op1 rfl (runs_buildF (cells := [_, _]) bz38 rfl rfl rfl rfl rfl) ?_
          refine RW.op1 rfl (runs_move rfl) ?_
          first
            | refine RW.opE0 (runs_storeW ti38 rfl rfl hst (k := 0) rfl rfl rfl (NoFz.zero _) rfl) ?_
            | refine RW.opE0 (runs_storeP ti38 rfl rfl hst (k := 0) rfl rfl rfl (NoFz.zero _) rfl) ?_
            | refine RW.opE0 (runs_storeW ti38 rfl rfl hst (k := 1) rfl rfl rfl (NoFz.zero _) rfl) ?_
            | refine RW.opE0 (runs_storeP ti38 rfl rfl hst (k := 1) rfl rfl rfl (NoFz.zero _) rfl) ?_
            | refine RW.opE0 (runs_storeW ti38 rfl rfl hst (k := 2) rfl rfl rfl (NoFz.zero _) rfl) ?_
            | refine RW.opE0 (runs_storeP ti38 rfl rfl hst (k := 2) rfl rfl rfl (NoFz.zero _) rfl) ?_
          rintro w hstn
          clear hst
          have hst := hstn
          clear hstn
          try simp only [List.set_cons_zero, List.set_cons_succ] at hst
          refine RW.op1 rfl (runs_assign rfl) ?_
          refine RW.op1 rfl (runs_assign rfl) ?_
          refine RW.op1 rfl (runs_assign rfl) ?_
          refine RW.done ?_
          refine AQ.next ?_
          refine CW.ret ?_
          refine AQ.past_ret ?_
          refine AQ.retL (rs := [.cell 6 38, .tmp 7, .tmp 8, .tmp 9]) (vs := [_, _, _, _]) rfl ⟨⟨_, rfl, hst.loadN (vs := [_, _]) (k := 0) ag38 ti38 rfl rfl rfl⟩, rfl, rfl, rfl, trivial⟩ (by simp) ?_
          exact ⟨_, _, 0, 0, [], 0, ger, hle, rfl, hst.drop1, RdL.nil 1, hfr _ (by unfold readEnd; rw [if_pos (by omega)])⟩
        · have hcb36 := hc36
          try simp only [decide_eq_true_eq, decide_eq_false_iff_not] at hc36
          refine CW.skip ?_
          refine AQ.next ?_
          refine CW.seq ?_
          refine CW.seq ?_
          -- region 6
          refine CW.region ?_
          refine RW.op1 rfl (runs_move rfl) ?_
          refine RW.op1 rfl (RdL.len Try.underlying33 rfl hG) ?_
          refine RW.op1 rfl (runs_lss rfl rfl) ?_
          refine RW.op1 rfl (runs_move rfl) ?_
          refine RW.split (t := 42) rfl (fun hb42 => ?_) (fun hb42 => ?_)
          · have hb42p := hb42
            try simp only [decide_eq_true_eq, decide_eq_false_iff_not] at hb42p
            skip
            refine RW.off_guard rfl rfl rfl rfl hb42 ?_
            refine RW.off_guard rfl rfl rfl rfl hb42 ?_
            refine RW.off_guard rfl rfl rfl rfl hb42 ?_
            refine RW.off_guard rfl rfl rfl rfl hb42 ?_
            refine RW.off_guard rfl rfl rfl rfl hb42 ?_
            refine RW.op1 rfl (runs_pick_true rfl hb42 rfl) ?_
            refine RW.op1 rfl (runs_move rfl) ?_
            refine RW.off_guard rfl rfl rfl rfl rfl ?_
            refine RW.off_guard rfl rfl rfl rfl rfl ?_
            refine RW.off_guard rfl rfl rfl rfl rfl ?_
            refine RW.off_guard rfl rfl rfl rfl rfl ?_
            refine RW.off_guard rfl rfl rfl rfl rfl ?_
            refine RW.off_guard rfl rfl rfl rfl rfl ?_
            refine RW.op1 rfl (runs_pick_true rfl rfl rfl) ?_
            refine RW.done ?_
            refine AQ.next ?_
            skip
            refine CW.cond_true rfl ?_
            refine CW.seq ?_
            -- region 7
            refine CW.region ?_
            refine RW.op1 rfl (runs_buildF (cells := [_, _]) bz38 rfl rfl rfl rfl rfl) ?_
            first
              | refine RW.opE0 (runs_storeW ti38 rfl rfl hst (k := 0) rfl rfl rfl (NoFz.zero _) rfl) ?_
              | refine RW.opE0 (runs_storeP ti38 rfl rfl hst (k := 0) rfl rfl rfl (NoFz.zero _) rfl) ?_
              | refine RW.opE0 (runs_storeW ti38 rfl rfl hst (k := 1) rfl rfl rfl (NoFz.zero _) rfl) ?_
              | refine RW.opE0 (runs_storeP ti38 rfl rfl hst (k := 1) rfl rfl rfl (NoFz.zero _) rfl) ?_
              | refine RW.opE0 (runs_storeW ti38 rfl rfl hst (k := 2) rfl rfl rfl (NoFz.zero _) rfl) ?_
              | refine RW.opE0 (runs_storeP ti38 rfl rfl hst (k := 2) rfl rfl rfl (NoFz.zero _) rfl) ?_
            rintro w hstn
            clear hst
            have hst := hstn
            clear hstn
            try simp only [List.set_cons_zero, List.set_cons_succ] at hst
            refine RW.op1 rfl (runs_assign rfl) ?_
            refine RW.op1 rfl (runs_assign rfl) ?_
            refine RW.op1 rfl (runs_assign rfl) ?_
            refine RW.done ?_
            refine AQ.next ?_
            refine CW.ret ?_
            refine AQ.past_ret ?_
            refine AQ.retL (rs := [.cell 6 38, .tmp 7, .tmp 8, .tmp 9]) (vs := [_, _, _, _]) rfl ⟨⟨_, rfl, hst.loadN (vs := [_, _]) (k := 0) ag38 ti38 rfl rfl rfl⟩, rfl, rfl, rfl, trivial⟩ (by simp) ?_
            exact ⟨_, _, 0, 0, [], 0, 2, hle, rfl, hst.drop1, RdL.nil 1, hfr _ (by unfold readEnd; rw [if_neg (by omega), if_pos (.inl (by omega))])⟩
          · have hb42p := hb42
            try simp only [decide_eq_true_eq, decide_eq_false_iff_not] at hb42p
            have h4 : 4 ≤ gb.length := by omega
            have hp4 := RdB.part hG (lo := ((4 : Int)).toNat) (hi := gb.length) (by show 4 ≤ gb.length; exact h4) (Nat.le_refl _)
            rw [List.take_of_length_le (l := gb.drop ((4 : Int)).toNat) (by rw [List.length_drop]; exact Nat.le_refl _)] at hp4
            replace hp4 : RdB _ _ (gb.drop 4) := hp4
            have hdl : (gb.drop 4).length = gb.length - 4 := List.length_drop
            refine RW.on_guard rfl rfl rfl rfl hb42 ?_
            refine RW.op1 rfl (runs_move rfl) ?_
            refine RW.on_guard rfl rfl rfl rfl hb42 ?_
            refine RW.op1 rfl (RdL.slice_l Try.underlying33 ti5 rfl rfl hG (by omega)) ?_
            refine RW.on_guard rfl rfl rfl rfl hb42 ?_
            refine RW.call rfl call47 rfl rfl (need_spec hst hp4 (by omega)) ?_
            rintro e w ⟨rfl, hstn⟩
            clear hst
            have hst := hstn
            clear hstn
            rw [hdl]
            refine ⟨_, rfl, ?_⟩
            refine RW.on_guard rfl rfl rfl rfl hb42 ?_
            refine RW.op1 rfl (runs_move rfl) ?_
            refine RW.on_guard rfl rfl rfl rfl hb42 ?_
            refine RW.op1 rfl (runs_neI rfl rfl) ?_
            refine RW.op1 rfl (runs_pick_false rfl hb42 rfl) ?_
            refine RW.op1 rfl (runs_move rfl) ?_
            refine RW.split (t := 49) rfl (fun hb49 => ?_) (fun hb49 => ?_)
            · have hb49p := hb49
              try simp only [decide_eq_true_eq, decide_eq_false_iff_not] at hb49p
              skip
              refine RW.off_guard rfl rfl rfl rfl hb49 ?_
              refine RW.off_guard rfl rfl rfl rfl hb49 ?_
              refine RW.off_guard rfl rfl rfl rfl hb49 ?_
              refine RW.off_guard rfl rfl rfl rfl hb49 ?_
              refine RW.off_guard rfl rfl rfl rfl hb49 ?_
              refine RW.off_guard rfl rfl rfl rfl hb49 ?_
              refine RW.op1 rfl (runs_pick_true rfl hb49 rfl) ?_
              refine RW.done ?_
              refine AQ.next ?_
              skip
              refine CW.cond_true rfl ?_
              refine CW.seq ?_
              -- region 7
              refine CW.region ?_
              refine RW.op1 rfl (runs_buildF (cells := [_, _]) bz38 rfl rfl rfl rfl rfl) ?_
              first
                | refine RW.opE0 (runs_storeW ti38 rfl rfl hst (k := 0) rfl rfl rfl (NoFz.zero _) rfl) ?_
                | refine RW.opE0 (runs_storeP ti38 rfl rfl hst (k := 0) rfl rfl rfl (NoFz.zero _) rfl) ?_
                | refine RW.opE0 (runs_storeW ti38 rfl rfl hst (k := 1) rfl rfl rfl (NoFz.zero _) rfl) ?_
                | refine RW.opE0 (runs_storeP ti38 rfl rfl hst (k := 1) rfl rfl rfl (NoFz.zero _) rfl) ?_
                | refine RW.opE0 (runs_storeW ti38 rfl rfl hst (k := 2) rfl rfl rfl (NoFz.zero _) rfl) ?_
                | refine RW.opE0 (runs_storeP ti38 rfl rfl hst (k := 2) rfl rfl rfl (NoFz.zero _) rfl) ?_
              rintro w hstn
              clear hst
              have hst := hstn
              clear hstn
              try simp only [List.set_cons_zero, List.set_cons_succ] at hst
              refine RW.op1 rfl (runs_assign rfl) ?_
              refine RW.op1 rfl (runs_assign rfl) ?_
              refine RW.op1 rfl (runs_assign rfl) ?_
              refine RW.done ?_
              refine AQ.next ?_
              refine CW.ret ?_
              refine AQ.past_ret ?_
              refine AQ.retL (rs := [.cell 6 38, .tmp 7, .tmp 8, .tmp 9]) (vs := [_, _, _, _]) rfl ⟨⟨_, rfl, hst.loadN (vs := [_, _]) (k := 0) ag38 ti38 rfl rfl rfl⟩, rfl, rfl, rfl, trivial⟩ (by simp) ?_
              exact ⟨_, _, 0, 0, [], 0, 2, hle, rfl, hst.drop1, RdL.nil 1, hfr _ (by unfold readEnd; rw [if_neg (by omega), if_pos (.inr (.inl (by omega)))])⟩
            · have hb49p := hb49
              try simp only [decide_eq_true_eq, decide_eq_false_iff_not] at hb49p
              skip
              refine RW.on_guard rfl rfl rfl rfl hb49 ?_
              refine RW.op1 rfl (runs_move rfl) ?_
              refine RW.on_guard rfl rfl rfl rfl hb49 ?_
              refine RW.op1 rfl (RdL.slice_l Try.underlying33 ti5 rfl rfl hG (by omega)) ?_
              refine RW.on_guard rfl rfl rfl rfl hb49 ?_
              refine RW.call rfl call52 rfl rfl (whole_spec hst hp4 (by omega)) ?_
              rintro e w ⟨I12, vW, hI12, rfl, hstn, hW⟩
              clear hst
              have hst := hstn
              clear hstn
              have hp5 := RdL.mono hI12 hp4
              replace hG := hG.mono hI12
              replace hle := hle.trans hI12
              refine ⟨_, rfl, ?_⟩
              refine RW.on_guard rfl rfl rfl rfl hb49 ?_
              refine RW.op1 rfl (runs_move rfl) ?_
              refine RW.on_guard rfl rfl rfl rfl hb49 ?_
              refine RW.call rfl call50 rfl rfl (equal_spec hst hW hG) ?_
              rintro e w ⟨rfl, hstn⟩
              clear hst
              have hst := hstn
              clear hstn
              refine ⟨_, rfl, ?_⟩
              refine RW.on_guard rfl rfl rfl rfl hb49 ?_
              refine RW.op1 rfl (runs_not rfl) ?_
              refine RW.op1 rfl (runs_pick_false rfl hb49 rfl) ?_
              refine RW.done ?_
              refine AQ.next ?_
              refine CW.cond rfl (fun hc56 => ?_) (fun hc56 => ?_)
              · have hcb56 := hc56
                try simp only [decide_eq_true_eq, decide_eq_false_iff_not] at hc56
                skip
                refine CW.seq ?_
                -- region 7
                refine CW.region ?_
                refine RW.op1 rfl (runs_buildF (cells := [_, _]) bz38 rfl rfl rfl rfl rfl) ?_
                first
                  | refine RW.opE0 (runs_storeW ti38 rfl rfl hst (k := 0) rfl rfl rfl (NoFz.zero _) rfl) ?_
                  | refine RW.opE0 (runs_storeP ti38 rfl rfl hst (k := 0) rfl rfl rfl (NoFz.zero _) rfl) ?_
                  | refine RW.opE0 (runs_storeW ti38 rfl rfl hst (k := 1) rfl rfl rfl (NoFz.zero _) rfl) ?_
                  | refine RW.opE0 (runs_storeP ti38 rfl rfl hst (k := 1) rfl rfl rfl (NoFz.zero _) rfl) ?_
                  | refine RW.opE0 (runs_storeW ti38 rfl rfl hst (k := 2) rfl rfl rfl (NoFz.zero _) rfl) ?_
                  | refine RW.opE0 (runs_storeP ti38 rfl rfl hst (k := 2) rfl rfl rfl (NoFz.zero _) rfl) ?_
                rintro w hstn
                clear hst
                have hst := hstn
                clear hstn
                try simp only [List.set_cons_zero, List.set_cons_succ] at hst
                refine RW.op1 rfl (runs_assign rfl) ?_
                refine RW.op1 rfl (runs_assign rfl) ?_
                refine RW.op1 rfl (runs_assign rfl) ?_
                refine RW.done ?_
                refine AQ.next ?_
                refine CW.ret ?_
                refine AQ.past_ret ?_
                refine AQ.retL (rs := [.cell 6 38, .tmp 7, .tmp 8, .tmp 9]) (vs := [_, _, _, _]) rfl ⟨⟨_, rfl, hst.loadN (vs := [_, _]) (k := 0) ag38 ti38 rfl rfl rfl⟩, rfl, rfl, rfl, trivial⟩ (by simp) ?_
                have hne : wholeB (gb.drop 4) ≠ gb := by simpa using hc56
                exact ⟨_, _, 0, 0, [], 0, 2, hle, rfl, hst.drop1, RdL.nil 1, hfr _ (by unfold readEnd; rw [if_neg (by omega), if_pos (.inr (.inr hne))])⟩
              · have hcb56 := hc56
                try simp only [decide_eq_true_eq, decide_eq_false_iff_not] at hc56
                skip
                refine CW.skip ?_
                refine AQ.next ?_
                refine CW.seq ?_
                -- region 8
                refine CW.draw (fun _ => True) (.q 1 (.q 2 (.q 4 (.q 5 (.q 6 (.fork (.l 0 (.l 3 (.l 7 (.q 8 (.q 9 (.q 10 .nil)))))) (.l 3 (.l 0 (.l 7 (.q 8 (.q 9 (.q 10 .nil)))))))))))) follows (by kernel_rfl) trivial ?_
                replace hst := hst.draw
                refine DRW.q rfl rfl (fun w' hF => runs_move rfl) ?_
                refine DRW.q rfl rfl (fun w' hF => RdL.slice_l Try.underlying33 ti5 rfl rfl hG (by omega)) ?_
                refine DRW.q rfl rfl (fun w' hF => runs_move rfl) ?_
                refine DRW.q rfl rfl (fun w' hF => runs_move rfl) ?_
                refine DRW.q rfl rfl (fun w' hF => runs_add rfl rfl (by omega)) ?_
                refine DRW.fork ?_ ?_
                · first
                    | refine DRW.op1 rfl rfl (runs_loadN (vs := [_, _]) ag38 ti38 rfl hst (k := 0) rfl rfl rfl) trivial ?_
                    | refine DRW.op1 rfl rfl (runs_loadN (vs := [_, _]) ag38 ti38 rfl hst (k := 1) rfl rfl rfl) trivial ?_
                    | refine DRW.op1 rfl rfl (runs_loadN (vs := [_, _]) ag38 ti38 rfl hst (k := 2) rfl rfl rfl) trivial ?_
                  refine DRW.call rfl rfl call46 rfl rfl (clone_spec hst hp5 (by omega)) ?_
                  rintro e w ⟨I15, vC, hI15, rfl, hstn, hC⟩
                  clear hst
                  have hst := hstn
                  clear hstn
                  replace hG := hG.mono hI15
                  replace hW := hW.mono hI15
                  replace hle := hle.trans hI15
                  refine ⟨_, rfl, trivial, ?_⟩
                  first
                    | refine DRW.opE0 rfl (runs_storeW ti38 rfl rfl hst (k := 0) rfl rfl rfl (NoFz.zero _) rfl) ?_
                    | refine DRW.opE0 rfl (runs_storeP ti38 rfl rfl hst (k := 0) rfl rfl rfl (NoFz.zero _) rfl) ?_
                    | refine DRW.opE0 rfl (runs_storeW ti38 rfl rfl hst (k := 1) rfl rfl rfl (NoFz.zero _) rfl) ?_
                    | refine DRW.opE0 rfl (runs_storeP ti38 rfl rfl hst (k := 1) rfl rfl rfl (NoFz.zero _) rfl) ?_
                    | refine DRW.opE0 rfl (runs_storeW ti38 rfl rfl hst (k := 2) rfl rfl rfl (NoFz.zero _) rfl) ?_
                    | refine DRW.opE0 rfl (runs_storeP ti38 rfl rfl hst (k := 2) rfl rfl rfl (NoFz.zero _) rfl) ?_
                  rintro w hstn
                  clear hst
                  have hst := hstn
                  clear hstn
                  try simp only [List.set_cons_zero, List.set_cons_succ] at hst
                  refine ⟨trivial, ?_⟩
                  refine DRW.q rfl rfl (fun w' hF => runs_assign rfl) ?_
                  refine DRW.q rfl rfl (fun w' hF => runs_assign rfl) ?_
                  refine DRW.q rfl rfl (fun w' hF => runs_assign rfl) ?_
                  refine DRW.done ?_
                  refine AQ.next ?_
                  refine CW.ret ?_
                  refine AQ.retL (rs := [.cell 6 38, .tmp 7, .tmp 8, .tmp 9]) (vs := [_, _, _, _]) rfl ⟨⟨_, rfl, hst.loadN (vs := [_, _]) (k := 0) ag38 ti38 rfl rfl rfl⟩, rfl, rfl, rfl, trivial⟩ (by simp) ?_
                  have heq : wholeB (gb.drop 4) = gb := by simpa using hc56
                  exact ⟨_, _, _, _, _, _, 0, hle, rfl, hst.drop1, hC, hfr _ (by unfold readEnd; rw [if_neg (by omega), if_neg (by rintro (h | h | h) <;> first | omega | exact h heq)])⟩
                refine DRW.call rfl rfl call46 rfl rfl (clone_spec hst hp5 (by omega)) ?_
                rintro e w ⟨I17, vC, hI17, rfl, hstn, hC⟩
                clear hst
                have hst := hstn
                clear hstn
                replace hG := hG.mono hI17
                replace hW := hW.mono hI17
                replace hle := hle.trans hI17
                refine ⟨_, rfl, trivial, ?_⟩
                first
                  | refine DRW.op1 rfl rfl (runs_loadN (vs := [_, _]) ag38 ti38 rfl hst (k := 0) rfl rfl rfl) trivial ?_
                  | refine DRW.op1 rfl rfl (runs_loadN (vs := [_, _]) ag38 ti38 rfl hst (k := 1) rfl rfl rfl) trivial ?_
                  | refine DRW.op1 rfl rfl (runs_loadN (vs := [_, _]) ag38 ti38 rfl hst (k := 2) rfl rfl rfl) trivial ?_
                first
                  | refine DRW.opE0 rfl (runs_storeW ti38 rfl rfl hst (k := 0) rfl rfl rfl (NoFz.zero _) rfl) ?_
                  | refine DRW.opE0 rfl (runs_storeP ti38 rfl rfl hst (k := 0) rfl rfl rfl (NoFz.zero _) rfl) ?_
                  | refine DRW.opE0 rfl (runs_storeW ti38 rfl rfl hst (k := 1) rfl rfl rfl (NoFz.zero _) rfl) ?_
                  | refine DRW.opE0 rfl (runs_storeP ti38 rfl rfl hst (k := 1) rfl rfl rfl (NoFz.zero _) rfl) ?_
                  | refine DRW.opE0 rfl (runs_storeW ti38 rfl rfl hst (k := 2) rfl rfl rfl (NoFz.zero _) rfl) ?_
                  | refine DRW.opE0 rfl (runs_storeP ti38 rfl rfl hst (k := 2) rfl rfl rfl (NoFz.zero _) rfl) ?_
                rintro w hstn
                clear hst
                have hst := hstn
                clear hstn
                try simp only [List.set_cons_zero, List.set_cons_succ] at hst
                refine ⟨trivial, ?_⟩
                refine DRW.q rfl rfl (fun w' hF => runs_assign rfl) ?_
                refine DRW.q rfl rfl (fun w' hF => runs_assign rfl) ?_
                refine DRW.q rfl rfl (fun w' hF => runs_assign rfl) ?_
                refine DRW.done ?_
                refine AQ.next ?_
                refine CW.ret ?_
                refine AQ.retL (rs := [.cell 6 38, .tmp 7, .tmp 8, .tmp 9]) (vs := [_, _, _, _]) rfl ⟨⟨_, rfl, hst.loadN (vs := [_, _]) (k := 0) ag38 ti38 rfl rfl rfl⟩, rfl, rfl, rfl, trivial⟩ (by simp) ?_
                have heq : wholeB (gb.drop 4) = gb := by simpa using hc56
                exact ⟨_, _, _, _, _, _, 0, hle, rfl, hst.drop1, hC, hfr _ (by unfold readEnd; rw [if_neg (by omega), if_neg (by rintro (h | h | h) <;> first | omega | exact h heq)])⟩
end Go.Proofs.YthocicjjighbnaaX
