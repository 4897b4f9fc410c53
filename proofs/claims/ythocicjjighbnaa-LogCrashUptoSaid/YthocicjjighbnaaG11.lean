/- Disks that are none; a format of one that was used; power that goes: the walk. -/
import Derived.Test.YthocicjjighbnaaT
import Derived.Test.YthocicjjighbnaaG10
namespace Go.Proofs.YthocicjjighbnaaX
set_option linter.unusedVariables false
set_option linter.unusedSimpArgs false
open Go Go.RowKit Go.Proofs

theorem iat_okE {xs : List Int} {i : Int} (h : ∀ n ∈ xs, i64ok n) (h0 : 0 ≤ i) (h1 : i < xs.length) : i64ok (iat xs i) := by
  have hi : i.toNat < xs.length := by omega
  unfold iat
  rw [List.getD_eq_getElem?_getD, List.getElem?_eq_getElem hi]
  exact h _ (List.getElem_mem hi)
theorem format_bad {w0 w : World} {I : Imm} {L Ld : Own} {d : Value} {S : DS} (hd : DiskO d S Ld) (hst : St w0 w I (Ld ++ L)) (hl : (S.secs.length : Int) ≠ 514) (hpn : S.pend.length ≤ 600000) :
    Calls Try.prog 10 #[d] w fun e w' => ∃ I' Ld', Imm.le I I' ∧ e = .returned (.int .i64 1) ∧ St w0 w' I' (Ld' ++ L) ∧ DiskO d S Ld' := by
  refine (format_log hd hst hpn).mono fun e w' ⟨I', Ld', S', er, h1, h2, h3, h4, h5⟩ => ?_
  cases h5 with
  | len => exact ⟨I', Ld', h1, h2, h3, h4⟩
  | wr h => exact absurd h hl
  | fl h => exact absurd h hl
  | st h => exact absurd h hl
theorem open_er {w0 w : World} {I : Imm} {L Ld : Own} {d : Value} {S : DS} (hd : DiskO d S Ld) (hst : St w0 w I (Ld ++ L)) (hpn : S.pend.length ≤ 600000) {x : Int} (hx : x ≠ 0) (ho : ∀ S' er G bs, OpnR S S' er G bs → er = x ∧ S' = S) :
    Calls Try.prog 11 #[d] w fun e w' => ∃ I' Ld', Imm.le I I' ∧ e = .returned (.tuple #[.pointer none, .slice none 0 0, .int .i64 x]) ∧ St w0 w' I' (Ld' ++ L) ∧ DiskO d S Ld' := by
  refine (open_log hd hst (by omega)).mono fun e w' ⟨I', Ld', Lo, y, z, S', er, G, bs', h1, h2, h3, h4, h5, h6⟩ => ?_
  obtain ⟨rfl, rfl⟩ := ho _ _ _ _ h6
  rcases h5 with ⟨_, rfl, rfl, rfl⟩ | ⟨h, _⟩
  · exact ⟨I', Ld', h1, h2, h3, h4⟩
  · exact absurd h hx
theorem opn_len {S S' : DS} {er : Int} {G : LG} {bs : List (List UInt8)} (hl : (S.secs.length : Int) ≠ 514) (h : OpnR S S' er G bs) : er = 1 ∧ S' = S := by
  cases h with
  | len => exact ⟨rfl, rfl⟩
  | none h => exact absurd h hl
  | st1 h => exact absurd h hl
  | full h => exact absurd h hl
  | st2 h => exact absurd h hl
  | ok h => exact absurd h hl
theorem newest_down {S : DS} (h : S.down = true) : newestR S = (slot0, 8) := by unfold newestR; rw [if_pos h]
theorem opn_down {S S' : DS} {er : Int} {G : LG} {bs : List (List UInt8)} (hl : S.secs.length = 514) (hd : S.down = true) (h : OpnR S S' er G bs) : er = 8 ∧ S' = S := by
  have h0 := newest_down hd
  cases h with
  | len h => omega
  | none _ h => rw [h0]; exact ⟨rfl, rfl⟩
  | st1 _ h => rw [h0] at h; cases h
  | full _ h => rw [h0] at h; cases h
  | st2 _ h => rw [h0] at h; cases h
  | ok _ h => rw [h0] at h; cases h
theorem fm_down {S S' : DS} {er : Int} (hl : S.secs.length = 514) (hd : S.down = true) (h : FmR S S' er) : er = 8 ∧ S' = S := by
  have hw : writeR S (0 + ((0 : Nat) : Int)) zeroB = (S, 8) := write_no (may_down hd) (by decide)
  have h0 : zputE S 0 = 8 := by show (writeR S (0 + ((0 : Nat) : Int)) zeroB).2 = 8; rw [hw]
  cases h with
  | len h => omega
  | wr _ _ hz hne =>
    rename_i k _ _
    cases k with
    | zero => exact ⟨h0, by show (writeR S (0 + ((0 : Nat) : Int)) zeroB).1 = S; rw [hw]⟩
    | succ k => have := hz 0 (by omega); omega
  | fl _ hz => have := hz 0 (by omega); omega
  | st _ hz => have := hz 0 (by omega); omega
theorem format_down {w0 w : World} {I : Imm} {L Ld : Own} {d : Value} {S : DS} (hd : DiskO d S Ld) (hst : St w0 w I (Ld ++ L)) (hl : S.secs.length = 514) (hdn : S.down = true) (hpn : S.pend.length ≤ 600000) :
    Calls Try.prog 10 #[d] w fun e w' => ∃ I' Ld', Imm.le I I' ∧ e = .returned (.int .i64 8) ∧ St w0 w' I' (Ld' ++ L) ∧ DiskO d S Ld' := by
  refine (format_log hd hst hpn).mono fun e w' ⟨I', Ld', S', er, h1, h2, h3, h4, h5⟩ => ?_
  obtain ⟨rfl, rfl⟩ := fm_down hl hdn h5
  exact ⟨I', Ld', h1, h2, h3, h4⟩
theorem write_keep {S : DS} (hu : Up S) (a : Int) (b : List UInt8) : Up (writeR S a b).1 ∧ (writeR S a b).1.secs = S.secs ∧ (writeR S a b).1.pend.length ≤ S.pend.length + 1 := by
  refine ⟨?_, writeR_secs S a b, writeR_pend S a b⟩
  unfold writeR
  split
  · exact hu
  · split
    · exact hu
    · split
      · have := hu.2; omega
      · refine ⟨hu.1, ?_⟩
        rw [hu.2]
        show (if (-1 : Int) - 1 > -1 then (-1 : Int) - 1 else -1) = -1
        decide
theorem left0_write {S : DS} (h : S.left = 0) (a : Int) (b : List UInt8) : (writeR S a b).2 ≠ 0 := by
  unfold writeR
  by_cases h1 : mayR S a ≠ 0
  · rw [if_pos h1]
    exact h1
  · rw [if_neg h1]
    by_cases h2 : b.length ≠ 32
    · rw [if_pos h2]; show (1 : Int) ≠ 0; decide
    · rw [if_neg h2, if_pos h]; show (8 : Int) ≠ 0; decide
theorem left0_fw {S S' : DS} {at_ e q next er : Int} {b : List UInt8} (h : S.left = 0) (hf : FwR S at_ e q b S' next er) : er ≠ 0 := by
  replace hf := hf.out
  have hn := (need_room b.length).2.2
  split at hf
  · rw [hf.2.2]; decide
  · split at hf
    · rw [hf.2.2]; decide
    · rcases hf with ⟨hz, _⟩ | ⟨k, _, _, hne, _, _, he⟩
      · exact absurd (hz 0 (by omega)) (left0_write h _ _)
      · rw [he]; exact hne
theorem append_dry {w0 w : World} {I : Imm} {L Ld : Own} {d : Value} {S : DS} {lb : Nat} {G : LG} {bs : List (List UInt8)} (hd : DiskO d S Ld) (hst : St w0 w I ((lb, .cells (logV d G).toArray 69) :: (Ld ++ L))) (hli : LI S G bs) (h0 : S.left = 0) {vb : Value} {b : List UInt8} (hb : RdB I vb b) (hn : needN b.length ≤ 255) (hx : G.nx < 16777215) (hr : (needN b.length : Nat) ≤ roomR G) :
    Calls Try.prog 18 #[.pointer (some ⟨lb, 0, none⟩), vb] w fun e w' => ∃ I' Ld' S' G', Imm.le I I' ∧ e = .returned (.int .i64 8) ∧ St w0 w' I' ((lb, .cells (logV d G').toArray 69) :: (Ld' ++ L)) ∧ DiskO d S' Ld' ∧ S'.down = true ∧ S'.secs.length = 514 ∧ S'.pend.length ≤ 255 := by
  have hrg := hli.di.rng
  refine (append_log hd hst hb (by unfold needN at hn; omega) (by omega) (by omega) (by omega) (by rw [hli.pn]; exact Nat.zero_le _)).mono fun e w' ⟨I', Ld', S', G', er, h1, h2, h3, h4, h5⟩ => ?_
  have hp : S'.pend.length ≤ 255 := by
    cases h5 with
    | may _ => rw [hli.pn]; exact Nat.zero_le _
    | bad _ hw _ => have := (wr_pend hw).2; rw [hli.pn] at this; simpa using this
    | ok _ hw => have := (wr_pend hw).2; rw [hli.pn] at this; simpa using this
  rcases append_li hli hn hx h4.ok h5 with ⟨_, _, _, g⟩ | ⟨rfl, _⟩ | ⟨rfl, _, g2, _, g3⟩
  · omega
  · exfalso
    generalize hz : (0 : Int) = z at h5
    cases h5 with
    | may h => exact h hz.symm
    | bad _ _ h => exact h hz.symm
    | ok _ hw =>
      cases hw with
      | bad _ h => exact h hz.symm
      | step hf _ => exact left0_fw h0 hf rfl
  · have := (g3 []).len
    rw [(crash_ok h4.ok []).1] at this
    exact ⟨I', Ld', S', G', h1, h2, h3, h4, g2, this, hp⟩
theorem lit4 (x : Int) (hx : 0 ≤ x ∧ x < 1024) (k : Nat) : i64ok (iat [0, 513, 515, x] (k : Int)) := by
  unfold iat i64ok
  rw [Int.toNat_natCast]
  match k with
  | 0 => show -9223372036854775808 ≤ (0 : Int) ∧ (0 : Int) ≤ 9223372036854775807; decide
  | 1 => show -9223372036854775808 ≤ (513 : Int) ∧ (513 : Int) ≤ 9223372036854775807; decide
  | 2 => show -9223372036854775808 ≤ (515 : Int) ∧ (515 : Int) ≤ 9223372036854775807; decide
  | 3 => show -9223372036854775808 ≤ x ∧ x ≤ 9223372036854775807; omega
  | k + 4 => exact ⟨by show _ ≤ (0 : Int); decide, by show (0 : Int) ≤ _; decide⟩
set_option maxRecDepth 100000 in
set_option maxHeartbeats 1000000 in
theorem lerrors_spec {w0 w : World} {I : Imm} {L : Own} (hst : St w0 w I L) (n : Int) (hn : i64ok n) {vl : Value} {ls : List Int} (hl0 : RdI I vl ls) (hls : ∀ x ∈ ls, i64ok x) :
    Calls Try.prog 3 #[.int .i64 n, vl] w fun e w' => e = .returned (.bool true) ∧ ∃ I', I.le I' ∧ St w0 w' I' L := by
  refine enter Try.func3 rfl (N := 154) rfl rfl ?_
  simp only [List.zipIdx_cons, List.zipIdx_nil, List.map_cons, List.map_nil, Nat.zero_add, Nat.reduceAdd]
  have hle := Imm.le.refl I
  refine CW.seq ?_
  -- region 0
  refine CW.region ?_
  refine RW.op1 rfl (runs_assign rfl) ?_
  refine RW.done ?_
  refine AQ.next ?_
  refine CW.seq ?_
  refine CW.seq ?_
  -- region 1
  refine CW.region ?_
  refine RW.op1 rfl (runs_move rfl) ?_
  refine RW.call rfl call8 rfl rfl (within_spec hst (v := n) (n := 1024) hn (by unfold i64ok; decide)) ?_
  rintro e w ⟨rfl, hstn⟩
  clear hst
  have hst := hstn
  clear hstn
  have hw1 := within_range n 1024
  generalize hx1 : within n 1024 = x1 at *
  replace hw1 : 0 ≤ x1 ∧ x1 < 1024 := by omega
  refine ⟨_, rfl, ?_⟩
  refine RW.opE rfl (runs_lit1R (xs := [.int .i64 0, .int .i64 513, .int .i64 515, .int .i64 x1]) Try.underlying22 ti3 (by decide) rfl rfl rfl (by simp [Value.oneCell']) hst) ?_
  rintro u2 w ⟨I2, hI2, hstn, h2⟩
  clear hst
  have hst := hstn
  clear hstn
  replace hl0 := hl0.mono hI2
  replace hle := hle.trans hI2
  have hks : RdI _ u2 [0, 513, 515, x1] := h2
  refine RW.op1 rfl (RdL.len Try.underlying22 rfl hks) ?_
  refine RW.op1 rfl (runs_move rfl) ?_
  refine RW.done ?_
  refine AQ.next ?_
  refine CW.block ?_
  -- loop 1
  refine CW.loop (Nat × Imm) (fun x w => I.le x.2 ∧ St w0 w x.2 L ∧ RdI x.2 vl ls ∧ RdI x.2 u2 [0, 513, 515, x1] ∧ x.1 ≤ 4) (fun x => [(1, vl), (21, u2), (22, .int .i64 4), (23, .int .i64 (x.1 : Int))]) (fun x => 4 - x.1) ⟨(0, _), ⟨hle, hst, hl0, hks, Nat.zero_le _⟩, ⟨rfl, rfl, rfl, rfl, trivial⟩⟩ ?_
  clear hle hst hl0 hks
  rintro ⟨k, I1⟩ w ⟨hle, hst, hl0, hks, hk⟩
  dsimp only at hle hst hl0 hks hk ⊢
  refine CW.seq ?_
  -- region 2
  refine CW.region ?_
  refine RW.op1 rfl (runs_lss rfl rfl) ?_
  refine RW.done ?_
  refine AQ.next ?_
  refine CW.seq ?_
  refine CW.cond rfl (fun hc24 => ?_) (fun hc24 => ?_)
  · have hcb24 := hc24
    try simp only [decide_eq_true_eq, decide_eq_false_iff_not] at hc24
    have hk1 : k < 4 := by omega
    have hko := lit4 x1 hw1 k
    refine CW.skip ?_
    refine AQ.next ?_
    refine CW.seq ?_
    refine CW.block ?_
    refine CW.seq ?_
    -- region 3
    refine CW.region ?_
    refine RW.op1 rfl (RdL.indexAddr Try.underlying22 ti3 (by decide) rfl rfl hks (by simp; omega)) ?_
    refine RW.op1 rfl (runs_load1 sc3 rfl (hst.cell_imm (RdI.at hks (by omega) (by simp; omega)))) ?_
    generalize hkk : iat [0, 513, 515, x1] (k : Int) = kk at *
    refine RW.op1 rfl (runs_assign rfl) ?_
    refine RW.done ?_
    refine AQ.next ?_
    refine CW.seq ?_
    -- region 4
    refine CW.region ?_
    refine RW.op1 rfl (runs_move rfl) ?_
    refine RW.call rfl call9 rfl rfl (new_spec hst kk) ?_
    rintro e w ⟨_, Ld, rfl, _, hstn, hd, a1, rfl⟩
    clear hst
    have hst := hstn
    clear hstn
    refine ⟨_, rfl, ?_⟩
    refine RW.op1 rfl (runs_assign rfl) ?_
    refine RW.done ?_
    refine AQ.next ?_
    refine CW.seq ?_
    -- region 5
    refine CW.region ?_
    refine RW.op1 rfl (runs_move rfl) ?_
    refine RW.op1 rfl (runs_neI rfl rfl) ?_
    refine RW.done ?_
    refine AQ.next ?_
    refine CW.cond rfl (fun hc30 => ?_) (fun hc30 => ?_)
    · have hcb30 := hc30
      try simp only [decide_eq_true_eq, decide_eq_false_iff_not] at hc30
      have hlen : ((newR kk).secs.length : Int) ≠ 514 := by rw [newR_len]; (repeat' split) <;> omega
      refine CW.seq ?_
      refine CW.seq ?_
      -- region 6
      refine CW.region ?_
      refine RW.op1 rfl (runs_move rfl) ?_
      refine RW.op1 rfl (runs_eq_nilptr Try.underlying24 rfl) ?_
      refine RW.op1 rfl (runs_move rfl) ?_
      have hk33 := (show (Option.isNone (some a1)) = false from rfl)
      refine RW.on_guard rfl rfl rfl rfl hk33 ?_
      refine RW.op1 rfl (runs_move rfl) ?_
      refine RW.on_guard rfl rfl rfl rfl hk33 ?_
      refine RW.call rfl call10 rfl rfl (format_bad hd hst hlen (Nat.zero_le _)) ?_
      rintro e w ⟨I4, Ld2, hI4, rfl, hstn, hd2⟩
      clear hst
      have hst := hstn
      clear hstn
      replace hl0 := hl0.mono hI4
      replace hks := hks.mono hI4
      replace hle := hle.trans hI4
      refine ⟨_, rfl, ?_⟩
      refine RW.on_guard rfl rfl rfl rfl hk33 ?_
      refine RW.op1 rfl (runs_neI rfl rfl) ?_
      refine RW.op1 rfl (runs_pick_false rfl hk33 rfl) ?_
      refine RW.done ?_
      refine AQ.next ?_
      refine CW.cond rfl (fun hc => absurd hc (by decide)) (fun hc => ?_)
      refine CW.skip ?_
      refine AQ.next ?_
      refine CW.seq ?_
      -- region 8
      refine CW.region ?_
      refine RW.op1 rfl (runs_move rfl) ?_
      refine RW.call rfl call11 rfl rfl (open_er hd2 hst (Nat.zero_le _) (x := 1) (by decide) (fun _ _ _ _ h => opn_len hlen h)) ?_
      rintro e w ⟨I5, Ld3, hI5, rfl, hstn, hd3⟩
      clear hst
      have hst := hstn
      clear hstn
      replace hl0 := hl0.mono hI5
      replace hks := hks.mono hI5
      replace hle := hle.trans hI5
      refine ⟨_, rfl, ?_⟩
      refine RW.op1 rfl (runs_move rfl) ?_
      refine RW.op1 rfl (runs_extract rfl rfl) ?_
      refine RW.op1 rfl (runs_extract rfl rfl) ?_
      refine RW.op1 rfl (runs_extract rfl rfl) ?_
      refine RW.op1 rfl (runs_assign rfl) ?_
      refine RW.op1 rfl (runs_assign rfl) ?_
      refine RW.op1 rfl (runs_assign rfl) ?_
      refine RW.done ?_
      refine AQ.next ?_
      refine CW.seq ?_
      -- region 9
      refine CW.region ?_
      refine RW.op1 rfl (runs_move rfl) ?_
      refine RW.op1 rfl (runs_neI rfl rfl) ?_
      refine RW.op1 rfl (runs_move rfl) ?_
      have hk46 := (show decide ((1 : Int) ≠ 1) = false by decide)
      refine RW.on_guard rfl rfl rfl rfl hk46 ?_
      refine RW.op1 rfl (runs_move rfl) ?_
      refine RW.on_guard rfl rfl rfl rfl hk46 ?_
      refine RW.op1 rfl (runs_ne_nilptr Try.underlying28 rfl) ?_
      refine RW.op1 rfl (runs_pick_false rfl hk46 rfl) ?_
      refine RW.op1 rfl (runs_move rfl) ?_
      have hk50 := (show (!(Option.isNone (none : Option Addr))) = false from rfl)
      refine RW.on_guard rfl rfl rfl rfl hk50 ?_
      refine RW.op1 rfl (runs_move rfl) ?_
      refine RW.on_guard rfl rfl rfl rfl hk50 ?_
      refine RW.op1 rfl (RdL.len (xs := []) (I := I) (size := 1) Try.underlying29 rfl (RdL.nil 1)) ?_
      refine RW.on_guard rfl rfl rfl rfl hk50 ?_
      refine RW.op1 rfl (runs_neI rfl rfl) ?_
      refine RW.op1 rfl (runs_pick_false rfl hk50 rfl) ?_
      refine RW.done ?_
      refine AQ.next ?_
      refine CW.cond rfl (fun hc => absurd hc (by decide)) (fun hc => ?_)
      refine CW.skip ?_
      refine AQ.block_normal ?_
      refine AQ.next ?_
      -- region 11
      refine CW.region ?_
      refine RW.op1 rfl (runs_add rfl rfl (by omega)) ?_
      refine RW.op1 rfl (runs_move rfl) ?_
      refine RW.done ?_
      exact AQ.again (x := (k, I1)) (k + 1, _) ⟨hle, hst.sub (List.sublist_append_right _ _), hl0, hks, by dsimp only; omega⟩ ⟨rfl, rfl, rfl, rfl, trivial⟩ (by dsimp only; omega)
    · have hcb30 := hc30
      try simp only [decide_eq_true_eq, decide_eq_false_iff_not] at hc30
      skip
      refine CW.skip ?_
      refine AQ.block_normal ?_
      refine AQ.next ?_
      -- region 11
      refine CW.region ?_
      refine RW.op1 rfl (runs_add rfl rfl (by omega)) ?_
      refine RW.op1 rfl (runs_move rfl) ?_
      refine RW.done ?_
      exact AQ.again (x := (k, I1)) (k + 1, _) ⟨hle, hst.sub (List.sublist_append_right _ _), hl0, hks, by dsimp only; omega⟩ ⟨rfl, rfl, rfl, rfl, trivial⟩ (by dsimp only; omega)
  · have hcb24 := hc24
    try simp only [decide_eq_true_eq, decide_eq_false_iff_not] at hc24
    skip
    refine CW.exit ?_
    refine AQ.past_exit ?_
    refine AQ.past_exit ?_
    refine AQ.block_hit ?_
    refine AQ.next ?_
    refine CW.seq ?_
    -- region 12
    refine CW.region ?_
    refine RW.call rfl call9 rfl rfl (new_spec hst 514) ?_
    rintro e w ⟨_, Ld, rfl, _, hstn, hd, a1, rfl⟩
    clear hst
    have hst := hstn
    clear hstn
    rw [newR_L] at hd
    refine ⟨_, rfl, ?_⟩
    refine RW.op1 rfl (runs_assign rfl) ?_
    refine RW.done ?_
    refine AQ.next ?_
    refine CW.seq ?_
    refine CW.seq ?_
    -- region 13
    refine CW.region ?_
    refine RW.op1 rfl (runs_move rfl) ?_
    refine RW.op1 rfl (runs_eq_nilptr Try.underlying24 rfl) ?_
    refine RW.done ?_
    refine AQ.next ?_
    refine CW.cond rfl (fun hc => absurd hc (by rw [(show (Option.isNone (some a1)) = false from rfl)]; decide)) (fun hc => ?_)
    refine CW.skip ?_
    refine AQ.next ?_
    refine CW.seq ?_
    refine CW.seq ?_
    -- region 15
    refine CW.region ?_
    refine RW.op1 rfl (runs_assign rfl) ?_
    refine RW.done ?_
    refine AQ.next ?_
    refine CW.block ?_
    -- loop 2
    refine CW.loop (Nat × Imm × Own × DS) (fun x w => I.le x.2.1 ∧ St w0 w x.2.1 (x.2.2.1 ++ L) ∧ RdI x.2.1 vl ls ∧ DiskO (.pointer (some a1)) x.2.2.2 x.2.2.1 ∧ Up x.2.2.2 ∧ x.2.2.2.secs.length = 514 ∧ x.2.2.2.pend.length ≤ x.1 ∧ x.1 ≤ 41) (fun x => [(1, vl), (11, .pointer (some a1)), (12, .int .i64 (x.1 : Int))]) (fun x => 100 - x.1) ⟨(0, _, _, _), ⟨hle, hst, hl0, hd, ⟨rfl, rfl⟩, List.length_replicate .., Nat.zero_le _, Nat.zero_le _⟩, ⟨rfl, rfl, rfl, trivial⟩⟩ ?_
    clear hle hst hl0 hd
    rintro ⟨i, I1, Ld, S⟩ w ⟨hle, hst, hl0, hd, hu, hsl, hpn, hi⟩
    dsimp only at hle hst hl0 hd hu hsl hpn hi ⊢
    refine CW.seq ?_
    refine CW.seq ?_
    -- region 16
    refine CW.cut Unit (fun _ w => St w0 w I1 (Ld ++ L)) (fun _ => [(1, vl), (11, .pointer (some a1)), (12, .int .i64 (i : Int)), (67, .bool (decide ((i : Int) + 1 < ls.length ∧ (i : Int) < 40)))]) ?_ ?_
    · -- region 16
      refine CW.region ?_
      refine RW.op1 rfl (runs_move rfl) ?_
      refine RW.op1 rfl (runs_add rfl rfl (by omega)) ?_
      refine RW.op1 rfl (runs_move rfl) ?_
      refine RW.op1 rfl (RdL.len Try.underlying22 rfl hl0) ?_
      refine RW.op1 rfl (runs_lss rfl rfl) ?_
      refine RW.op1 rfl (runs_move rfl) ?_
      refine RW.split (t := 64) rfl (fun hb64 => ?_) (fun hb64 => ?_)
      · have hb64p := hb64
        try simp only [decide_eq_true_eq, decide_eq_false_iff_not] at hb64p
        refine RW.on_guard rfl rfl rfl rfl hb64 ?_
        refine RW.op1 rfl (runs_move rfl) ?_
        refine RW.on_guard rfl rfl rfl rfl hb64 ?_
        refine RW.op1 rfl (runs_lss rfl rfl) ?_
        refine RW.op1 rfl (runs_pick_true rfl hb64 rfl) ?_
        refine RW.done ?_
        exact AQ.meet () hst ⟨rfl, rfl, rfl, boolN (by simp only [decide_eq_true_eq, true_iff, Bool.false_eq_true, false_iff]; omega), trivial⟩
      · have hb64p := hb64
        try simp only [decide_eq_true_eq, decide_eq_false_iff_not] at hb64p
        refine RW.off_guard rfl rfl rfl rfl hb64 ?_
        refine RW.off_guard rfl rfl rfl rfl hb64 ?_
        refine RW.op1 rfl (runs_pick_false rfl hb64 rfl) ?_
        refine RW.done ?_
        exact AQ.meet () hst ⟨rfl, rfl, rfl, boolN (by simp only [decide_eq_true_eq, true_iff, Bool.false_eq_true, false_iff]; omega), trivial⟩
    · rintro _ w hstn
      clear hst
      have hst := hstn
      clear hstn
      refine AQ.next ?_
      refine CW.cond rfl (fun hc67 => ?_) (fun hc67 => ?_)
      · have hcb67 := hc67
        try simp only [decide_eq_true_eq, decide_eq_false_iff_not] at hc67
        refine CW.skip ?_
        refine AQ.next ?_
        refine CW.seq ?_
        refine CW.block ?_
        -- region 18
        refine CW.draw (FSt w0 I1 L) (.q 0 (.q 1 (.q 2 (.q 3 (.q 4 (.q 6 (.q 7 (.q 8 (.q 9 (.q 10 (.l 5 (.l 11 (.l 12 .nil))))))))))))) follows (by kernel_rfl) ⟨_, Imm.le.refl _, hst.draw.sub (List.sublist_append_right _ _)⟩ ?_
        replace hst := hst.draw
        refine DRW.q rfl rfl (fun w' hF => runs_move rfl) ?_
        refine DRW.q rfl rfl (fun w' hF => runs_move rfl) ?_
        refine DRW.q rfl rfl (fun w' hF => runs_move rfl) ?_
        refine DRW.q rfl rfl (fun w' hF => RdL.indexAddr Try.underlying22 ti3 (by decide) rfl rfl hl0 (by omega)) ?_
        first
          | refine DRW.q rfl rfl (FSt.load1 sc3 rfl (RdI.at (by assumption) (by omega) (by omega))) ?_
          | refine DRW.q rfl rfl (FSt.load1_own sc3 rfl (k := 0) rfl rfl) ?_
          | refine DRW.q rfl rfl (FSt.load1_own sc3 rfl (k := 1) rfl rfl) ?_
          | refine DRW.q rfl rfl (FSt.load1_own sc3 rfl (k := 2) rfl rfl) ?_
        refine DRW.q rfl rfl (fun w' hF => runs_move rfl) ?_
        refine DRW.q rfl rfl (fun w' hF => runs_move rfl) ?_
        refine DRW.q rfl rfl (fun w' hF => runs_add rfl rfl (by omega)) ?_
        refine DRW.q rfl rfl (fun w' hF => RdL.indexAddr Try.underlying22 ti3 (by decide) rfl rfl hl0 (by omega)) ?_
        first
          | refine DRW.q rfl rfl (FSt.load1 sc3 rfl (RdI.at (by assumption) (by omega) (by omega))) ?_
          | refine DRW.q rfl rfl (FSt.load1_own sc3 rfl (k := 0) rfl rfl) ?_
          | refine DRW.q rfl rfl (FSt.load1_own sc3 rfl (k := 1) rfl rfl) ?_
          | refine DRW.q rfl rfl (FSt.load1_own sc3 rfl (k := 2) rfl rfl) ?_
        refine DRW.call rfl rfl call8 rfl rfl (within_spec hst (v := iat ls (i : Int)) (n := 12) (iat_okE hls (by omega) (by omega)) (by unfold i64ok; decide)) ?_
        rintro e w ⟨rfl, hstn⟩
        clear hst
        have hst := hstn
        clear hstn
        refine ⟨_, rfl, FSt.of hst (Imm.le.refl _) (List.sublist_append_right _ _), ?_⟩
        refine DRW.call rfl rfl call13 rfl rfl (bytes_spec hst (iat ls ((i : Int) + 1)) 32 (iat_okE hls (by omega) (by omega)) (by omega)) ?_
        rintro e w ⟨I8, vB, hI8, rfl, hstn, hB⟩
        clear hst
        have hst := hstn
        clear hstn
        replace hl0 := hl0.mono hI8
        replace hle := hle.trans hI8
        refine ⟨_, rfl, FSt.of hst hI8 (List.sublist_append_right _ _), ?_⟩
        refine DRW.call rfl rfl call12 rfl rfl (write_spec hd hst _ hB (by omega)) ?_
        rintro e w ⟨I9, Ld2, hI9, rfl, hstn, hd2⟩
        clear hst
        have hst := hstn
        clear hstn
        obtain ⟨hwk1, hwk2, hwk3⟩ := write_keep hu (within (iat ls (i : Int)) 12) (bytesOf (iat ls ((i : Int) + 1)) 32)
        generalize (writeR S (within (iat ls (i : Int)) 12) (bytesOf (iat ls ((i : Int) + 1)) 32)).1 = SW at hd2 hwk1 hwk2 hwk3
        replace hl0 := hl0.mono hI9
        replace hB := hB.mono hI9
        replace hle := hle.trans hI9
        refine ⟨_, rfl, FSt.of hst (hI8.trans hI9) (List.sublist_append_right _ _), ?_⟩
        refine DRW.done ?_
        refine AQ.block_normal ?_
        refine AQ.next ?_
        -- region 17
        refine CW.region ?_
        refine RW.op1 rfl (runs_move rfl) ?_
        refine RW.op1 rfl (runs_add rfl rfl (by omega)) ?_
        refine RW.op1 rfl (runs_assign rfl) ?_
        refine RW.done ?_
        exact AQ.again (x := (i, I1, Ld, S)) (i + 2, _, Ld2, _) ⟨hle, hst, hl0, hd2, hwk1, by dsimp only; rw [hwk2]; exact hsl, by dsimp only; omega, by dsimp only; omega⟩ ⟨rfl, rfl, rfl, trivial⟩ (by dsimp only; omega)
      · have hcb67 := hc67
        try simp only [decide_eq_true_eq, decide_eq_false_iff_not] at hc67
        refine CW.exit ?_
        refine AQ.past_exit ?_
        refine AQ.past_exit ?_
        refine AQ.block_hit ?_
        refine AQ.next ?_
        refine CW.seq ?_
        -- region 19
        refine CW.region ?_
        refine RW.op1 rfl (runs_buildF (cells := [_, _]) bz38 rfl rfl rfl rfl rfl) ?_
        refine RW.opE rfl (runs_litB (bs := [0, 0, 0, 1, 0, 1]) rfl Try.underlying33 ti5 (by decide) rfl rfl rfl hst) ?_
        rintro u10 w ⟨I10, hI10, hstn, h10⟩
        clear hst
        have hst := hstn
        clear hstn
        replace hl0 := hl0.mono hI10
        replace hle := hle.trans hI10
        refine RW.call rfl call14 rfl rfl (seal_spec hst 9 77 0 1 h10 (by decide)) ?_
        rintro e w ⟨I11, vS, hI11, rfl, hstn, hS⟩
        clear hst
        have hst := hstn
        clear hstn
        replace hl0 := hl0.mono hI11
        replace h10 := h10.mono hI11
        replace hle := hle.trans hI11
        refine ⟨_, rfl, ?_⟩
        refine RW.op1 rfl (runs_move rfl) ?_
        refine RW.op1 rfl (runs_extract rfl rfl) ?_
        refine RW.op1 rfl (runs_extract rfl rfl) ?_
        refine RW.op1 rfl (runs_assign rfl) ?_
        refine RW.op1 rfl (runs_assign rfl) ?_
        refine RW.done ?_
        refine AQ.next ?_
        refine CW.seq ?_
        -- region 20
        refine CW.region ?_
        refine RW.op1 rfl (runs_move rfl) ?_
        refine RW.op1 rfl (runs_move rfl) ?_
        refine RW.call rfl call12 rfl rfl (write_spec hd hst 0 hS (by omega)) ?_
        rintro e w ⟨I12, Ld3, hI12, rfl, hstn, hd3⟩
        clear hst
        have hst := hstn
        clear hstn
        obtain ⟨hu3, hs3, hp3⟩ := write_keep hu 0 (if sealM 9 77 0 1 [0, 0, 0, 1, 0, 1] then sealB 9 77 0 1 [0, 0, 0, 1, 0, 1] else [])
        generalize (writeR S 0 (if sealM 9 77 0 1 [0, 0, 0, 1, 0, 1] then sealB 9 77 0 1 [0, 0, 0, 1, 0, 1] else [])).1 = S3 at hd3 hu3 hs3 hp3
        replace hl0 := hl0.mono hI12
        replace h10 := h10.mono hI12
        replace hS := hS.mono hI12
        replace hle := hle.trans hI12
        refine ⟨_, rfl, ?_⟩
        refine RW.done ?_
        refine AQ.next ?_
        refine CW.seq ?_
        refine CW.seq ?_
        -- region 21
        refine CW.region ?_
        refine RW.op1 rfl (runs_move rfl) ?_
        refine RW.call rfl call10 rfl rfl (format_up hd3 hst hu3 (by rw [hs3]; exact hsl) (by omega)) ?_
        rintro e w ⟨I13, Ld4, S4, hI13, rfl, hstn, hd4, hu4, hp4, hdi4⟩
        clear hst
        have hst := hstn
        clear hstn
        replace hl0 := hl0.mono hI13
        replace h10 := h10.mono hI13
        replace hS := hS.mono hI13
        replace hle := hle.trans hI13
        refine ⟨_, rfl, ?_⟩
        refine RW.op1 rfl (runs_neI rfl rfl) ?_
        refine RW.op1 rfl (runs_move rfl) ?_
        have hk95 := (show decide ((0 : Int) ≠ 0) = false by decide)
        refine RW.on_guard rfl rfl rfl rfl hk95 ?_
        refine RW.op1 rfl (runs_move rfl) ?_
        refine RW.on_guard rfl rfl rfl rfl hk95 ?_
        refine RW.call rfl call15 rfl rfl (pending_spec hd4 hst) ?_
        rintro e w ⟨rfl, hstn⟩
        clear hst
        have hst := hstn
        clear hstn
        rw [hp4]
        refine ⟨_, rfl, ?_⟩
        refine RW.on_guard rfl rfl rfl rfl hk95 ?_
        refine RW.op1 rfl (runs_neI rfl rfl) ?_
        refine RW.op1 rfl (runs_pick_false rfl hk95 rfl) ?_
        refine RW.done ?_
        refine AQ.next ?_
        refine CW.cond rfl (fun hc => absurd hc (by decide)) (fun hc => ?_)
        refine CW.skip ?_
        refine AQ.next ?_
        refine CW.seq ?_
        -- region 23
        refine CW.region ?_
        refine RW.op1 rfl (runs_move rfl) ?_
        refine RW.call rfl call11 rfl rfl (open_up hd4 hst hu4 hp4 hdi4 (by decide)) ?_
        rintro e w ⟨I15, Ld5, lb, y, vs, S5, hI15, rfl, hstn, hd5, hr5, hli5, hu5⟩
        clear hst
        have hst := hstn
        clear hstn
        replace hl0 := hl0.mono hI15
        replace h10 := h10.mono hI15
        replace hS := hS.mono hI15
        replace hle := hle.trans hI15
        refine ⟨_, rfl, ?_⟩
        refine RW.op1 rfl (runs_move rfl) ?_
        refine RW.op1 rfl (runs_extract rfl rfl) ?_
        refine RW.op1 rfl (runs_extract rfl rfl) ?_
        refine RW.op1 rfl (runs_extract rfl rfl) ?_
        refine RW.op1 rfl (runs_assign rfl) ?_
        refine RW.op1 rfl (runs_assign rfl) ?_
        refine RW.op1 rfl (runs_assign rfl) ?_
        refine RW.done ?_
        refine AQ.next ?_
        refine CW.seq ?_
        refine CW.seq ?_
        -- region 24
        refine CW.region ?_
        refine RW.op1 rfl (runs_move rfl) ?_
        refine RW.op1 rfl (runs_neI rfl rfl) ?_
        refine RW.op1 rfl (runs_move rfl) ?_
        have hk108 := (show decide ((0 : Int) ≠ 0) = false by decide)
        refine RW.on_guard rfl rfl rfl rfl hk108 ?_
        refine RW.op1 rfl (runs_move rfl) ?_
        refine RW.on_guard rfl rfl rfl rfl hk108 ?_
        refine RW.op1 rfl (runs_eq_nilptr Try.underlying28 rfl) ?_
        refine RW.op1 rfl (runs_pick_false rfl hk108 rfl) ?_
        refine RW.op1 rfl (runs_move rfl) ?_
        have hk112 := (show (Option.isNone (some (⟨lb, 0, none⟩ : Addr))) = false from rfl)
        refine RW.on_guard rfl rfl rfl rfl hk112 ?_
        refine RW.op1 rfl (runs_move rfl) ?_
        refine RW.on_guard rfl rfl rfl rfl hk112 ?_
        refine RW.op1 rfl (RdL.len Try.underlying29 rfl hr5.1) ?_
        refine RW.on_guard rfl rfl rfl rfl hk112 ?_
        refine RW.op1 rfl (runs_neI rfl rfl) ?_
        refine RW.op1 rfl (runs_pick_false rfl hk112 rfl) ?_
        refine RW.op1 rfl (runs_move rfl) ?_
        have hk117 := (show decide (((vs.length : Nat) : Int) ≠ 0) = false by rw [hr5.2.1]; rfl)
        refine RW.on_guard rfl rfl rfl rfl hk117 ?_
        refine RW.op1 rfl (runs_move rfl) ?_
        refine RW.on_guard rfl rfl rfl rfl hk117 ?_
        refine RW.call rfl call16 rfl rfl (epoch_spec hst) ?_
        rintro e w ⟨rfl, hstn⟩
        clear hst
        have hst := hstn
        clear hstn
        refine ⟨_, rfl, ?_⟩
        refine RW.on_guard rfl rfl rfl rfl hk117 ?_
        refine RW.op1 rfl (runs_neI rfl rfl) ?_
        refine RW.op1 rfl (runs_pick_false rfl hk117 rfl) ?_
        refine RW.done ?_
        refine AQ.next ?_
        refine CW.cond rfl (fun hc => absurd hc (by show ¬ decide (slot1.up.e ≠ 2) = true; decide)) (fun hc => ?_)
        refine CW.skip ?_
        refine AQ.next ?_
        refine CW.seq ?_
        -- region 26
        refine CW.region ?_
        refine RW.op1 rfl (runs_move rfl) ?_
        refine RW.call rfl call17 rfl rfl (limit_spec hd5 (hst.perm List.perm_middle.symm) 0 (by unfold i64ok; decide)) ?_
        rintro e w ⟨rfl, Ld6, hstn, hd6⟩
        clear hst
        have hst := hstn
        clear hstn
        replace hst := hst.perm List.perm_middle
        rw [if_pos (by decide)] at hd6
        have hli6 : LI { S5 with left := 0 } ⟨slot1.up, 2, 1, 0⟩ [] := ⟨hli5.on, hli5.pn, hli5.ok, hli5.di, hli5.st⟩
        refine ⟨_, rfl, ?_⟩
        refine RW.done ?_
        refine AQ.next ?_
        refine CW.seq ?_
        refine CW.seq ?_
        -- region 27
        refine CW.region ?_
        refine RW.op1 rfl (runs_move rfl) ?_
        refine RW.opE rfl (runs_lit1 (xs := ([97] : List UInt8).map b8) Try.underlying33 ti5 (by decide) rfl rfl rfl (b8_one _) hst) ?_
        rintro u18 w ⟨Lv18, hstn, hg18⟩
        clear hst
        have hst := hstn
        clear hstn
        refine RW.opE rfl (runs_convMark Try.underlying33 Try.underlying5 rfl hst (by assumption) (by decide)) ?_
        rintro u19 w ⟨I19, hI19, hstn, h19⟩
        clear hst
        have hst := hstn
        clear hstn
        replace hl0 := hl0.mono hI19
        replace h10 := h10.mono hI19
        replace hS := hS.mono hI19
        replace hr5 := hr5.mono hI19
        replace hle := hle.trans hI19
        refine RW.call rfl call18 rfl rfl (append_dry hd6 hst hli6 rfl h19 (by decide) (by decide) (by decide)) ?_
        rintro e w ⟨I20, Ld7, S7, G7, hI20, rfl, hstn, hd7, hdn7, hsl7, hp7⟩
        clear hst
        have hst := hstn
        clear hstn
        replace hl0 := hl0.mono hI20
        replace h10 := h10.mono hI20
        replace hS := hS.mono hI20
        replace hr5 := hr5.mono hI20
        replace h19 := h19.mono hI20
        replace hle := hle.trans hI20
        refine ⟨_, rfl, ?_⟩
        refine RW.op1 rfl (runs_neI rfl rfl) ?_
        refine RW.done ?_
        refine AQ.next ?_
        refine CW.cond rfl (fun hc => absurd hc (by decide)) (fun hc => ?_)
        refine CW.skip ?_
        refine AQ.next ?_
        refine CW.seq ?_
        -- region 29
        refine CW.region ?_
        refine RW.op1 rfl (runs_move rfl) ?_
        refine RW.call rfl call11 rfl rfl (open_er hd7 (hst.perm List.perm_middle.symm) (by omega) (x := 8) (by decide) (fun _ _ _ _ h => opn_down hsl7 hdn7 h)) ?_
        rintro e w ⟨I21, Ld8, hI21, rfl, hstn, hd8⟩
        clear hst
        have hst := hstn
        clear hstn
        replace hl0 := hl0.mono hI21
        replace h10 := h10.mono hI21
        replace hS := hS.mono hI21
        replace hr5 := hr5.mono hI21
        replace h19 := h19.mono hI21
        replace hle := hle.trans hI21
        refine ⟨_, rfl, ?_⟩
        refine RW.op1 rfl (runs_move rfl) ?_
        refine RW.op1 rfl (runs_extract rfl rfl) ?_
        refine RW.op1 rfl (runs_extract rfl rfl) ?_
        refine RW.op1 rfl (runs_extract rfl rfl) ?_
        refine RW.op1 rfl (runs_assign rfl) ?_
        refine RW.op1 rfl (runs_assign rfl) ?_
        refine RW.op1 rfl (runs_assign rfl) ?_
        refine RW.done ?_
        refine AQ.next ?_
        refine CW.seq ?_
        -- region 30
        refine CW.region ?_
        refine RW.op1 rfl (runs_move rfl) ?_
        refine RW.op1 rfl (runs_eqI rfl rfl) ?_
        refine RW.op1 rfl (runs_move rfl) ?_
        have hk137 := (show decide ((8 : Int) = 8) = true by decide)
        refine RW.on_guard rfl rfl rfl rfl hk137 ?_
        refine RW.op1 rfl (runs_move rfl) ?_
        refine RW.on_guard rfl rfl rfl rfl hk137 ?_
        refine RW.op1 rfl (runs_eq_nilptr Try.underlying28 rfl) ?_
        refine RW.op1 rfl (runs_pick_true rfl hk137 rfl) ?_
        refine RW.op1 rfl (runs_move rfl) ?_
        have hk141 := (show (Option.isNone (none : Option Addr)) = true from rfl)
        refine RW.on_guard rfl rfl rfl rfl hk141 ?_
        refine RW.op1 rfl (runs_move rfl) ?_
        refine RW.on_guard rfl rfl rfl rfl hk141 ?_
        refine RW.op1 rfl (RdL.len (xs := []) (I := I) (size := 1) Try.underlying29 rfl (RdL.nil 1)) ?_
        refine RW.on_guard rfl rfl rfl rfl hk141 ?_
        refine RW.op1 rfl (runs_eqI rfl rfl) ?_
        refine RW.op1 rfl (runs_pick_true rfl hk141 rfl) ?_
        refine RW.op1 rfl (runs_move rfl) ?_
        have hk146 := (show decide (((0 : Nat) : Int) = 0) = true by decide)
        refine RW.on_guard rfl rfl rfl rfl hk146 ?_
        refine RW.op1 rfl (runs_move rfl) ?_
        refine RW.on_guard rfl rfl rfl rfl hk146 ?_
        refine RW.call rfl call10 rfl rfl (format_down hd8 hst hsl7 hdn7 (by omega)) ?_
        rintro e w ⟨I22, Ld9, hI22, rfl, hstn, hd9⟩
        clear hst
        have hst := hstn
        clear hstn
        replace hl0 := hl0.mono hI22
        replace h10 := h10.mono hI22
        replace hS := hS.mono hI22
        replace hr5 := hr5.mono hI22
        replace h19 := h19.mono hI22
        replace hle := hle.trans hI22
        refine ⟨_, rfl, ?_⟩
        refine RW.on_guard rfl rfl rfl rfl hk146 ?_
        refine RW.op1 rfl (runs_eqI rfl rfl) ?_
        refine RW.op1 rfl (runs_pick_true rfl hk146 rfl) ?_
        refine RW.op1 rfl (runs_move rfl) ?_
        have hk151 := (show decide ((8 : Int) = 8) = true by decide)
        refine RW.on_guard rfl rfl rfl rfl hk151 ?_
        refine RW.call rfl call19 rfl rfl (wakes04_spec hst) ?_
        rintro e w ⟨rfl, I23, hI23, hstn⟩
        clear hst
        have hst := hstn
        clear hstn
        replace hl0 := hl0.mono hI23
        replace h10 := h10.mono hI23
        replace hS := hS.mono hI23
        replace hr5 := hr5.mono hI23
        replace h19 := h19.mono hI23
        replace hle := hle.trans hI23
        refine ⟨_, rfl, ?_⟩
        refine RW.op1 rfl (runs_pick_true rfl hk151 rfl) ?_
        refine RW.op1 rfl (runs_assign rfl) ?_
        refine RW.done ?_
        refine AQ.next ?_
        refine CW.ret ?_
        refine AQ.ret1 rfl rfl ?_
        exact ⟨rfl, _, hle, hst.sub ((List.sublist_cons_self _ _).trans (List.sublist_append_right _ _))⟩
end Go.Proofs.YthocicjjighbnaaX
