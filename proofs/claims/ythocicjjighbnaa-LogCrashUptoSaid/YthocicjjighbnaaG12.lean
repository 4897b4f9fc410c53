/- Records appended, turned to others, found again: the walk. -/
import Derived.Test.YthocicjjighbnaaT
import Derived.Test.YthocicjjighbnaaG11
namespace Go.Proofs.YthocicjjighbnaaX
set_option linter.unusedVariables false
set_option linter.unusedSimpArgs false
open Go Go.RowKit Go.Proofs

theorem GrowR.lend {w0 w : World} {I : Imm} {L : Own} {e : TypeId} {v : Value} {bss : List (List UInt8)} {Lv : Own} (hg : GrowR I e v bss Lv) (h : St w0 w I (Lv ++ L)) :
    ∃ I1 vs, I.le I1 ∧ St w0 w I1 L ∧ RdR I1 v vs bss ∧ ∀ (w' : World) (I2 : Imm) (L' : Own), I1.le I2 → St w0 w' I2 L' → ∃ I3, I.le I3 ∧ St w0 w' I3 (Lv ++ L') := by
  obtain ⟨vs, h1, h2, h3⟩ := hg
  obtain ⟨I1, h4, h5, h6, h7⟩ := h1.lend h
  exact ⟨I1, vs, h4, h5, ⟨h6, h2, fun i u b h8 h9 => RdL.mono h4 (h3 i u b h8 h9)⟩, fun w' I2 L' h8 h9 => by
    obtain ⟨I3, h10, _, h11⟩ := h7 w' I2 L' h8 h9
    exact ⟨I3, h10, h11⟩⟩
theorem perm_log {α : Type} (x : α) (A B C : List α) : (x :: (A ++ (B ++ C))).Perm (B ++ (x :: (A ++ C))) := perm_out x A B C
/-- Turned to rows of one's own. -/
theorem turn_own {w0 w : World} {I : Imm} {L Ld Ln : Own} {d : Value} {S : DS} {lb : Nat} {G : LG} {bs bss : List (List UInt8)} {ty : TypeId} (hd : DiskO d S Ld) (hst : St w0 w I ((lb, .cells (logV d G).toArray 69) :: (Ld ++ (Ln ++ L)))) (hu : Up S) (hli : LI S G bs) {v : Value} (hv : GrowR I ty v bss Ln) (hl : bss.length ≤ 1000) (hn : ∀ b ∈ bss, needN b.length ≤ 255) (hx : G.nx + (bss.length : Nat) ≤ 16777215) (hs : G.s.n < 16777214) :
    Calls Try.prog 22 #[.pointer (some ⟨lb, 0, none⟩), v] w fun e w' => ∃ I' Ld' S' G' er, Imm.le I I' ∧ e = .returned (.int .i64 er) ∧ St w0 w' I' ((lb, .cells (logV d G').toArray 69) :: (Ld' ++ (Ln ++ L))) ∧ DiskO d S' Ld' ∧ Up S' ∧
      ((er = 5 ∧ G' = G ∧ LI S' G bs ∧ 256 < needS bss) ∨ (er = 0 ∧ needS bss ≤ 256 ∧ LI S' G' bss ∧ G' = ⟨turnS G, beginR (1 - G.s.h) + (needS bss : Nat), G.nx + (bss.length : Nat), 0⟩)) := by
  obtain ⟨I1, vs, h1, h2, h3, h4⟩ := hv.lend (hst.perm (perm_out _ Ld Ln L))
  refine (turn_up hd h2 hu hli h3 hl hn hx hs).mono fun e w' ⟨I', Ld', S', G', er, g1, g2, g3, g4, g5, g6⟩ => ?_
  obtain ⟨I3, k1, k2⟩ := h4 w' I' _ g1 g3
  exact ⟨I3, Ld', S', G', er, k1, g2, k2.perm (perm_out _ Ld' Ln L).symm, g4, g5, g6⟩
set_option maxRecDepth 100000 in
set_option maxHeartbeats 1000000 in
theorem need4_spec {w0 w : World} {I : Imm} {L : Own} (hst : St w0 w I L) {v : Value} {bs : List UInt8} (hv : RdB I v bs) (hb : bs.length ≤ 140737488355328) :
    Calls Try.prog 24 #[v] w fun e w' => e = .returned (.int .i64 ((needN bs.length : Nat) : Int)) ∧ St w0 w' I L := by
  refine enter Try.func24 rfl (N := 9) rfl rfl ?_
  simp only [List.zipIdx_cons, List.zipIdx_nil, List.map_cons, List.map_nil, Nat.zero_add, Nat.reduceAdd]
  have hle := Imm.le.refl I
  refine CW.seq ?_
  -- region 0
  refine CW.region ?_
  refine RW.op1 rfl (runs_assign rfl) ?_
  refine RW.done ?_
  refine AQ.next ?_
  refine CW.seq ?_
  -- region 1
  refine CW.region ?_
  refine RW.op1 rfl (runs_move rfl) ?_
  refine RW.op1 rfl (RdL.len Try.underlying33 rfl hv) ?_
  refine RW.op1 rfl (runs_add rfl rfl (by omega)) ?_
  refine RW.op1 rfl (runs_add rfl rfl (by omega)) ?_
  refine RW.op1 rfl (runs_sub rfl rfl (by omega)) ?_
  refine RW.op1 rfl (runs_quo rfl rfl (by omega)) ?_
  rw [show (((bs.length : Nat) : Int) + 4 + 19 - 1).tdiv 19 = ((needN bs.length : Nat) : Int) from by
    rw [show (((bs.length : Nat) : Int) + 4 + 19 - 1) = ((bs.length + 22 : Nat) : Int) by omega]
    rfl, wrap_i64 (by unfold needN; omega)]
  refine RW.op1 rfl (runs_assign rfl) ?_
  refine RW.done ?_
  refine AQ.next ?_
  refine CW.ret ?_
  refine AQ.ret1 rfl rfl ?_
  exact ⟨rfl, hst⟩
/-- As far as they are alike. -/
theorem rows_eq {a b : List (List UInt8)} (hl : a.length = b.length) (h : ∀ j, j < a.length → a.getD j [] = b.getD j []) : a = b := by
  refine List.ext_getElem hl fun i h1 h2 => ?_
  have := h i h1
  rwa [List.getD_eq_getElem?_getD, List.getD_eq_getElem?_getD, List.getElem?_eq_getElem h1, List.getElem?_eq_getElem h2] at this
set_option maxRecDepth 100000 in
set_option maxHeartbeats 1000000 in
theorem same4_spec {w0 w : World} {I : Imm} {L : Own} (hst : St w0 w I L) {v u : Value} {vs us : List Value} {a b : List (List UInt8)} (ha : RdR I v vs a) (hb : RdR I u us b) (hl : ∀ x ∈ a, x.length ≤ 140737488355328) (hla : a.length ≤ 1000000) :
    Calls Try.prog 25 #[v, u] w fun e w' => e = .returned (.bool (decide (a = b))) ∧ St w0 w' I L := by
  have hal := ha.2.1
  have hbl := hb.2.1
  refine enter Try.func25 rfl (N := 27) rfl rfl ?_
  simp only [List.zipIdx_cons, List.zipIdx_nil, List.map_cons, List.map_nil, Nat.zero_add, Nat.reduceAdd]
  have hle := Imm.le.refl I
  refine CW.seq ?_
  -- region 0
  refine CW.region ?_
  refine RW.op1 rfl (runs_assign rfl) ?_
  refine RW.done ?_
  refine AQ.next ?_
  refine CW.seq ?_
  refine CW.seq ?_
  -- region 1
  refine CW.region ?_
  refine RW.op1 rfl (runs_move rfl) ?_
  refine RW.op1 rfl (RdL.len Try.underlying29 rfl ha.1) ?_
  refine RW.op1 rfl (runs_move rfl) ?_
  refine RW.op1 rfl (RdL.len Try.underlying29 rfl hb.1) ?_
  refine RW.op1 rfl (runs_neI rfl rfl) ?_
  refine RW.done ?_
  refine AQ.next ?_
  refine CW.cond rfl (fun hc10 => ?_) (fun hc10 => ?_)
  · have hcb10 := hc10
    try simp only [decide_eq_true_eq, decide_eq_false_iff_not] at hc10
    refine CW.seq ?_
    -- region 2
    refine CW.region ?_
    refine RW.op1 rfl (runs_assign rfl) ?_
    refine RW.done ?_
    refine AQ.next ?_
    refine CW.ret ?_
    refine AQ.past_ret ?_
    refine AQ.ret1 rfl rfl ?_
    have hne : decide (a = b) = false := decide_eq_false (fun h => by rw [h] at hal; omega)
    rw [hne]
    exact ⟨rfl, hst⟩
  · have hcb10 := hc10
    try simp only [decide_eq_true_eq, decide_eq_false_iff_not] at hc10
    refine CW.skip ?_
    refine AQ.next ?_
    refine CW.seq ?_
    refine CW.seq ?_
    -- region 3
    refine CW.region ?_
    refine RW.op1 rfl (runs_move rfl) ?_
    refine RW.op1 rfl (RdL.len Try.underlying29 rfl ha.1) ?_
    refine RW.op1 rfl (runs_move rfl) ?_
    refine RW.done ?_
    refine AQ.next ?_
    refine CW.block ?_
    -- loop 1
    refine CW.loop Nat (fun k w => St w0 w I L ∧ k ≤ vs.length ∧ ∀ j, j < k → a.getD j [] = b.getD j []) (fun k => [(0, v), (1, u), (12, .int .i64 (vs.length : Nat)), (13, .int .i64 (k : Int))]) (fun k => vs.length - k) ⟨0, ⟨hst, Nat.zero_le _, fun j h => absurd h (Nat.not_lt_zero _)⟩, ⟨rfl, rfl, rfl, rfl, trivial⟩⟩ ?_
    rintro k w ⟨hstn, hk, hall⟩
    clear hst
    have hst := hstn
    clear hstn
    refine CW.seq ?_
    -- region 4
    refine CW.region ?_
    refine RW.op1 rfl (runs_lss rfl rfl) ?_
    refine RW.done ?_
    refine AQ.next ?_
    refine CW.seq ?_
    refine CW.cond rfl (fun hc14 => ?_) (fun hc14 => ?_)
    · have hcb14 := hc14
      try simp only [decide_eq_true_eq, decide_eq_false_iff_not] at hc14
      have hk1 : k < vs.length := by omega
      have hkl : (a.getD k []).length ≤ 140737488355328 := hl _ (getD_mem (by omega))
      refine CW.skip ?_
      refine AQ.next ?_
      refine CW.seq ?_
      refine CW.block ?_
      refine CW.seq ?_
      -- region 5
      refine CW.region ?_
      refine RW.op1 rfl (runs_move rfl) ?_
      refine RW.op1 rfl (runs_assign rfl) ?_
      refine RW.done ?_
      refine AQ.next ?_
      refine CW.seq ?_
      -- region 6
      refine CW.drawSt hst (.q 0 (.q 1 (.q 2 (.q 3 (.q 4 (.q 5 (.q 6 (.q 7 (.l 8 (.q 9 .nil)))))))))) follows (by kernel_rfl) (fun w hst => ?_)
      refine DRW.q rfl rfl (fun w' hF => runs_move rfl) ?_
      refine DRW.q rfl rfl (fun w' hF => runs_move rfl) ?_
      refine DRW.q rfl rfl (fun w' hF => RdL.indexAddr Try.underlying29 ti33 (by decide) rfl rfl ha.1 (by omega)) ?_
      refine DRW.q rfl rfl (FSt.load1 sc33 rfl (RdR.at ha (by omega) (by omega))) ?_
      refine DRW.q rfl rfl (fun w' hF => runs_move rfl) ?_
      refine DRW.q rfl rfl (fun w' hF => runs_move rfl) ?_
      refine DRW.q rfl rfl (fun w' hF => RdL.indexAddr Try.underlying29 ti33 (by decide) rfl rfl hb.1 (by omega)) ?_
      refine DRW.q rfl rfl (FSt.load1 sc33 rfl (RdR.at hb (by omega) (by omega))) ?_
      refine DRW.call rfl rfl call21 rfl rfl (same_spec hst (ha.row (i := k) hk1) (hb.row (i := k) (by omega)) hkl) ?_
      rintro e w ⟨rfl, hstn⟩
      clear hst
      have hst := hstn
      clear hstn
      refine ⟨_, rfl, FSt.of hst (Imm.le.refl _) (by first | exact (List.sublist_cons_self _ _).trans (List.sublist_append_right _ _) | exact List.Sublist.refl _ | exact List.sublist_cons_self _ _ | exact List.sublist_append_right _ _ | exact (List.sublist_cons_self _ _).trans (List.sublist_cons_self _ _) | exact (List.sublist_append_right _ _).trans (List.sublist_cons_self _ _) | simp), ?_⟩
      refine DRW.q rfl rfl (fun w' hF => runs_not rfl) ?_
      refine DRW.done ?_
      refine AQ.next ?_
      refine CW.cond rfl (fun hc25 => ?_) (fun hc25 => ?_)
      · have hcb25 := hc25
        try simp only [decide_eq_true_eq, decide_eq_false_iff_not] at hc25
        refine CW.seq ?_
        -- region 7
        refine CW.region ?_
        refine RW.op1 rfl (runs_assign rfl) ?_
        refine RW.done ?_
        refine AQ.next ?_
        refine CW.ret ?_
        refine AQ.block_ret ?_
        refine AQ.past_ret ?_
        refine AQ.past_ret ?_
        refine AQ.block_ret ?_
        refine AQ.past_ret ?_
        refine AQ.ret1 rfl rfl ?_
        have hne : decide (a = b) = false := decide_eq_false (fun h => by subst h; simp at hc25)
        rw [hne]
        exact ⟨rfl, hst⟩
      · have hcb25 := hc25
        try simp only [decide_eq_true_eq, decide_eq_false_iff_not] at hc25
        refine CW.skip ?_
        refine AQ.block_normal ?_
        refine AQ.next ?_
        -- region 8
        refine CW.region ?_
        refine RW.op1 rfl (runs_add rfl rfl (by omega)) ?_
        refine RW.op1 rfl (runs_move rfl) ?_
        refine RW.done ?_
        exact AQ.again (x := k) (k + 1) ⟨hst, by omega, fun j hj => by
          by_cases h : j < k
          · exact hall j h
          · obtain rfl : j = k := by omega
            simpa using hc25⟩ ⟨rfl, rfl, rfl, rfl, trivial⟩ (by omega)
    · have hcb14 := hc14
      try simp only [decide_eq_true_eq, decide_eq_false_iff_not] at hc14
      skip
      refine CW.exit ?_
      refine AQ.past_exit ?_
      refine AQ.past_exit ?_
      refine AQ.block_hit ?_
      refine AQ.next ?_
      refine CW.seq ?_
      -- region 9
      refine CW.region ?_
      refine RW.op1 rfl (runs_assign rfl) ?_
      refine RW.done ?_
      refine AQ.next ?_
      refine CW.ret ?_
      refine AQ.ret1 rfl rfl ?_
      have heq : decide (a = b) = true := decide_eq_true (rows_eq (by omega) (fun j hj => hall j (by omega)))
      rw [heq]
      exact ⟨rfl, hst⟩
theorem same_own {w0 w : World} {I : Imm} {L Lh : Own} (hst : St w0 w I (Lh ++ L)) {v u : Value} {vs : List Value} {a b : List (List UInt8)} {ty : TypeId} (ha : RdR I v vs a) (hb : GrowR I ty u b Lh) (hl : ∀ x ∈ a, x.length ≤ 140737488355328) (hla : a.length ≤ 1000000) :
    Calls Try.prog 25 #[v, u] w fun e w' => ∃ I', I.le I' ∧ e = .returned (.bool (decide (a = b))) ∧ St w0 w' I' (Lh ++ L) := by
  obtain ⟨I1, us, h1, h2, h3, h4⟩ := hb.lend hst
  refine (same4_spec h2 (ha.mono h1) h3 hl hla).mono fun e w' ⟨g1, g2⟩ => ?_
  obtain ⟨I3, k1, k2⟩ := h4 w' I1 _ (Imm.le.refl _) g2
  exact ⟨I3, k1, g1, k2⟩
/-- What the plays keep. -/
structure PL (S : DS) (G : LG) (bss : List (List UInt8)) (k : Nat) (room epoch : Int) : Prop where
  up : Up S
  li : LI S G bss
  n : G.s.n ≤ 2 + (k : Int)
  e : G.s.e ≤ 2 + (k : Int)
  nx : G.nx ≤ 1 + 3 * (k : Int)
  len : bss.length ≤ 3 + k
  rm : room = roomR G
  ep : epoch = G.s.e
  sz : ∀ b ∈ bss, b.length ≤ 3000
theorem PL.append {S S' : DS} {G G' : LG} {bss : List (List UInt8)} {k : Nat} {room epoch : Int} {b : List UInt8} (h : PL S G bss k room epoch) (hu : Up S') (hb : b.length ≤ 3000) (hr : LI S' G' (bss ++ [b])) (hg : G' = G.to (G.at_ + (needN b.length : Nat)) (G.nx + 1)) : PL S' G' (bss ++ [b]) (k + 2) (room - (needN b.length : Nat)) epoch := by
  subst hg
  have h1 := h.n
  have h2 := h.e
  have h3 := h.nx
  have h4 := h.len
  refine ⟨hu, hr, ?_, ?_, ?_, by rw [List.length_append]; simp; omega, ?_, h.ep, fun c hc => ?_⟩
  · show G.s.n ≤ _; omega
  · show G.s.e ≤ _; omega
  · show G.nx + 1 ≤ _; omega
  · rw [h.rm]
    show beginR G.s.h + 256 - G.at_ - (needN b.length : Nat) = beginR G.s.h + 256 - (G.at_ + (needN b.length : Nat))
    omega
  · rcases List.mem_append.1 hc with hc | hc
    · exact h.sz c hc
    · rw [List.mem_singleton] at hc
      subst hc
      exact hb
theorem PL.keep {S S' : DS} {G : LG} {bss : List (List UInt8)} {k : Nat} {room epoch : Int} (h : PL S G bss k room epoch) (hu : Up S') (hr : LI S' G bss) : PL S' G bss (k + 2) room epoch := by
  have h1 := h.n
  have h2 := h.e
  have h3 := h.nx
  have h4 := h.len
  exact ⟨hu, hr, by omega, by omega, by omega, by omega, h.rm, h.ep, h.sz⟩
theorem PL.turn {S S' : DS} {G G' : LG} {bss nb : List (List UInt8)} {k : Nat} {room epoch : Int} (h : PL S G bss k room epoch) (hu : Up S') (hb : ∀ b ∈ nb, b.length ≤ 3000) (hl : nb.length ≤ 3) (hr : LI S' G' nb) (hg : G' = ⟨turnS G, beginR (1 - G.s.h) + (needS nb : Nat), G.nx + (nb.length : Nat), 0⟩) : PL S' G' nb (k + 2) (256 - (needS nb : Nat)) epoch := by
  subst hg
  have h1 := h.n
  have h2 := h.e
  have h3 := h.nx
  refine ⟨hu, hr, ?_, ?_, ?_, by omega, ?_, h.ep, hb⟩
  · show G.s.n + 1 ≤ _; omega
  · show G.s.e ≤ _; omega
  · show G.nx + (nb.length : Nat) ≤ _; omega
  · show 256 - (needS nb : Nat) = beginR (1 - G.s.h) + 256 - (beginR (1 - G.s.h) + (needS nb : Nat))
    omega
theorem PL.open {S S' : DS} {G : LG} {bss : List (List UInt8)} {k : Nat} {room epoch : Int} (h : PL S G bss k room epoch) (hu : Up S') (hr : LI S' ⟨G.s.up, G.at_, G.nx, 0⟩ bss) : PL S' ⟨G.s.up, G.at_, G.nx, 0⟩ bss (k + 2) room (epoch + 1) := by
  have h1 := h.n
  have h2 := h.e
  have h3 := h.nx
  have h4 := h.len
  refine ⟨hu, hr, ?_, ?_, ?_, by omega, ?_, ?_, h.sz⟩
  · show G.s.n + 1 ≤ _; omega
  · show G.s.e + 1 ≤ _; omega
  · show G.nx ≤ _; omega
  · rw [h.rm]; rfl
  · rw [h.ep]; rfl
theorem wrap_ok (n : Int) : i64ok (IntKind.i64.wrap n) := by rw [IntKind.wrap_i64]; unfold i64ok; omega
theorem needS_snoc (a : List (List UInt8)) (b : List UInt8) : needS (a ++ [b]) = needS a + needN b.length := by simp [needS]
theorem PL.rng {S : DS} {G : LG} {bss : List (List UInt8)} {k : Nat} {room epoch : Int} (h : PL S G bss k room epoch) : 0 ≤ room ∧ room ≤ 256 ∧ 0 ≤ epoch ∧ epoch ≤ 2 + (k : Int) ∧ room = beginR G.s.h + 256 - G.at_ ∧ 0 ≤ G.s.h ∧ G.s.h ≤ 1 ∧ 0 ≤ G.at_ ∧ G.at_ ≤ 1000 := by
  have h1 := h.li.di.rng
  have h2 := h.li.di.so
  have h3 := h.rm
  have h4 := h.ep
  have h5 := h.e
  unfold SlotOk at h2
  unfold roomR at h3
  omega
theorem sub_b {α : Type} (x : α) (A B C : List α) : (x :: (A ++ C)).Sublist (x :: (A ++ (B ++ C))) := ((List.sublist_append_right B C).append_left A).cons_cons x
theorem sub_c {α : Type} (x : α) (A B C D : List α) : (x :: (A ++ (B ++ D))).Sublist (x :: (A ++ (B ++ (C ++ D)))) := (((List.sublist_append_right C D).append_left B).append_left A).cons_cons x
theorem needs_bound {nb : List (List UInt8)} {j : Nat} (h : ∀ b ∈ nb, b.length ≤ 3000) (hj : nb.length = j) : needS nb ≤ 255 * j := by
  subst hj
  induction nb with
  | nil => exact Nat.le_refl _
  | cons b r ih =>
    rw [needS_cons, List.length_cons]
    have h1 := ih (fun c hc => h c (List.mem_cons_of_mem _ hc))
    have h2 : needN b.length ≤ 255 := by have := h b (List.mem_cons_self ..); unfold needN; omega
    omega
theorem need_small {b : List UInt8} (h : b.length ≤ 3000) : needN b.length ≤ 255 := by unfold needN; omega
set_option maxRecDepth 100000 in
set_option maxHeartbeats 4000000 in
theorem lplays_spec {w0 w : World} {I : Imm} {L : Own} (hst : St w0 w I L) {vl : Value} {ls : List Int} (hl0 : RdI I vl ls) (hls : ∀ x ∈ ls, i64ok x) :
    Calls Try.prog 5 #[vl] w fun e w' => e = .returned (.bool true) ∧ ∃ I', I.le I' ∧ St w0 w' I' L := by
  refine enter Try.func5 rfl (N := 194) rfl rfl ?_
  simp only [List.zipIdx_cons, List.zipIdx_nil, List.map_cons, List.map_nil, Nat.zero_add, Nat.reduceAdd]
  have hle := Imm.le.refl I
  refine CW.seq ?_
  -- region 0
  refine CW.region ?_
  refine RW.op1 rfl (runs_assign rfl) ?_
  refine RW.done ?_
  refine AQ.next ?_
  refine CW.seq ?_
  -- region 1
  refine CW.region ?_
  refine RW.call rfl call9 rfl rfl (new_spec hst 514) ?_
  rintro e w ⟨_, Ld, rfl, _, hstn, hd, a1, rfl⟩
  clear hst
  have hst := hstn
  clear hstn
  rw [newR_L] at hd
  refine ⟨_, rfl, ?_⟩
  refine RW.op1 rfl (runs_assign rfl) ?_
  refine RW.done ?_
  refine AQ.next ?_
  refine CW.seq ?_
  refine CW.seq ?_
  -- region 2
  refine CW.region ?_
  refine RW.op1 rfl (runs_move rfl) ?_
  refine RW.op1 rfl (runs_eq_nilptr Try.underlying24 rfl) ?_
  refine RW.op1 rfl (runs_move rfl) ?_
  have hk22 := (show (Option.isNone (some a1)) = false from rfl)
  refine RW.on_guard rfl rfl rfl rfl hk22 ?_
  refine RW.op1 rfl (runs_move rfl) ?_
  refine RW.on_guard rfl rfl rfl rfl hk22 ?_
  refine RW.call rfl call10 rfl rfl (format_up hd hst ⟨rfl, rfl⟩ (List.length_replicate ..) (Nat.zero_le _)) ?_
  rintro e w ⟨I2, Ld2, S2, hI2, rfl, hstn, hd2, hu2, hp2, hdi2⟩
  clear hst
  have hst := hstn
  clear hstn
  replace hl0 := hl0.mono hI2
  replace hle := hle.trans hI2
  refine ⟨_, rfl, ?_⟩
  refine RW.on_guard rfl rfl rfl rfl hk22 ?_
  refine RW.op1 rfl (runs_neI rfl rfl) ?_
  refine RW.op1 rfl (runs_pick_false rfl hk22 rfl) ?_
  refine RW.done ?_
  refine AQ.next ?_
  refine CW.cond rfl (fun hc => absurd hc (by decide)) (fun hc => ?_)
  refine CW.skip ?_
  refine AQ.next ?_
  refine CW.seq ?_
  -- region 4
  refine CW.region ?_
  refine RW.op1 rfl (runs_move rfl) ?_
  refine RW.call rfl call11 rfl rfl (open_up hd2 hst hu2 hp2 hdi2 (by decide)) ?_
  rintro e w ⟨I3, Ld3, lb, y, vs, S3, hI3, rfl, hstn, hd3, hr3, hli3, hu3⟩
  clear hst
  have hst := hstn
  clear hstn
  replace hl0 := hl0.mono hI3
  replace hle := hle.trans hI3
  refine ⟨_, rfl, ?_⟩
  refine RW.op1 rfl (runs_move rfl) ?_
  refine RW.op1 rfl (runs_extract rfl rfl) ?_
  refine RW.op1 rfl (runs_extract rfl rfl) ?_
  refine RW.op1 rfl (runs_extract rfl rfl) ?_
  refine RW.op1 rfl (runs_assign rfl) ?_
  refine RW.op1 rfl (runs_assign rfl) ?_
  refine RW.op1 rfl (runs_assign rfl) ?_
  refine RW.done ?_
  refine AQ.next ?_
  refine CW.seq ?_
  refine CW.seq ?_
  -- region 5
  refine CW.region ?_
  refine RW.op1 rfl (runs_move rfl) ?_
  refine RW.op1 rfl (runs_neI rfl rfl) ?_
  refine RW.op1 rfl (runs_move rfl) ?_
  have hk35 := (show decide ((0 : Int) ≠ 0) = false by decide)
  refine RW.on_guard rfl rfl rfl rfl hk35 ?_
  refine RW.op1 rfl (runs_move rfl) ?_
  refine RW.on_guard rfl rfl rfl rfl hk35 ?_
  refine RW.op1 rfl (runs_eq_nilptr Try.underlying28 rfl) ?_
  refine RW.op1 rfl (runs_pick_false rfl hk35 rfl) ?_
  refine RW.op1 rfl (runs_move rfl) ?_
  have hk39 := (show (Option.isNone (some (⟨lb, 0, none⟩ : Addr))) = false from rfl)
  refine RW.on_guard rfl rfl rfl rfl hk39 ?_
  refine RW.op1 rfl (runs_move rfl) ?_
  refine RW.on_guard rfl rfl rfl rfl hk39 ?_
  refine RW.op1 rfl (RdL.len Try.underlying29 rfl hr3.1) ?_
  refine RW.on_guard rfl rfl rfl rfl hk39 ?_
  refine RW.op1 rfl (runs_neI rfl rfl) ?_
  refine RW.op1 rfl (runs_pick_false rfl hk39 rfl) ?_
  refine RW.done ?_
  refine AQ.next ?_
  refine CW.cond rfl (fun hc => absurd hc (by rw [hr3.2.1]; decide)) (fun hc => ?_)
  refine CW.skip ?_
  refine AQ.next ?_
  refine CW.seq ?_
  -- region 7
  refine CW.region ?_
  refine RW.op1 rfl (runs_assign rfl) ?_
  refine RW.done ?_
  refine AQ.next ?_
  refine CW.seq ?_
  -- region 8
  refine CW.region ?_
  refine RW.op1 rfl (runs_assign rfl) ?_
  refine RW.op1 rfl (runs_assign rfl) ?_
  refine RW.done ?_
  refine AQ.next ?_
  refine CW.seq ?_
  refine CW.seq ?_
  -- region 9
  refine CW.region ?_
  refine RW.op1 rfl (runs_assign rfl) ?_
  refine RW.done ?_
  refine AQ.next ?_
  refine CW.block ?_
  -- loop 1
  have hpl3 : PL S3 ⟨slot1.up, 2, 1, 0⟩ [] 0 256 2 := ⟨hu3, hli3, by decide, by decide, by decide, by decide, by decide, by decide, fun b hb => by cases hb⟩
  refine CW.loop ((Imm × Own × DS × Nat × LG × List (List UInt8) × Value × Own × Int × Int) × Nat) (fun z w => (I.le z.1.1 ∧ St w0 w z.1.1 ((z.1.2.2.2.1, .cells (logV (.pointer (some a1)) z.1.2.2.2.2.1).toArray 69) :: (z.1.2.1 ++ (z.1.2.2.2.2.2.2.2.1 ++ L))) ∧ DiskO (.pointer (some a1)) z.1.2.2.1 z.1.2.1 ∧ PL z.1.2.2.1 z.1.2.2.2.2.1 z.1.2.2.2.2.2.1 (z.2) z.1.2.2.2.2.2.2.2.2.1 z.1.2.2.2.2.2.2.2.2.2 ∧ GrowR z.1.1 33 z.1.2.2.2.2.2.2.1 z.1.2.2.2.2.2.1 z.1.2.2.2.2.2.2.2.1 ∧ RdI z.1.1 vl ls) ∧ z.2 ≤ 61) (fun z => [(0, vl), (3, .pointer (some a1)), (4, .pointer (some ⟨z.1.2.2.2.1, 0, none⟩)), (7, z.1.2.2.2.2.2.2.1), (8, .int .i64 z.1.2.2.2.2.2.2.2.2.1), (9, .int .i64 z.1.2.2.2.2.2.2.2.2.2), (10, .int .i64 (z.2 : Nat))]) (fun z => 100 - z.2) ⟨((_, Ld3, S3, lb, ⟨slot1.up, 2, 1, 0⟩, [], _, [], 256, 2), 0), ⟨⟨hle, hst, hd3, hpl3, GrowR.nil _, hl0⟩, Nat.zero_le _⟩, ⟨rfl, rfl, rfl, rfl, rfl, rfl, rfl, trivial⟩⟩ ?_
  clear hle hst hd hd2 hd3 hpl3 hl0
  rintro ⟨⟨IK, Ld, S, lb, G, bss, vh, Lh, room, epoch⟩, k⟩ w ⟨⟨hle, hst, hd, hpl, hgr, hl0⟩, hk⟩
  dsimp only at hle hst hd hpl hgr hl0 ⊢
  refine CW.seq ?_
  refine CW.seq ?_
  -- region 10
  refine CW.cut Unit (fun _ w => St w0 w IK ((lb, .cells (logV (.pointer (some a1)) G).toArray 69) :: (Ld ++ (Lh ++ L)))) (fun _ => [(0, vl), (3, .pointer (some a1)), (4, .pointer (some ⟨lb, 0, none⟩)), (7, vh), (8, .int .i64 room), (9, .int .i64 epoch), (10, .int .i64 (k : Nat)), (52, .bool (decide ((k : Int) + 1 < ls.length ∧ (k : Int) < 60)))]) ?_ ?_
  · -- region 10
    refine CW.region ?_
    refine RW.op1 rfl (runs_move rfl) ?_
    refine RW.op1 rfl (runs_add rfl rfl (by omega)) ?_
    refine RW.op1 rfl (runs_move rfl) ?_
    refine RW.op1 rfl (RdL.len Try.underlying22 rfl hl0) ?_
    refine RW.op1 rfl (runs_lss rfl rfl) ?_
    refine RW.op1 rfl (runs_move rfl) ?_
    refine RW.split (t := 49) rfl (fun hb49 => ?_) (fun hb49 => ?_)
    · have hb49p := hb49
      try simp only [decide_eq_true_eq, decide_eq_false_iff_not] at hb49p
      refine RW.on_guard rfl rfl rfl rfl hb49 ?_
      refine RW.op1 rfl (runs_move rfl) ?_
      refine RW.on_guard rfl rfl rfl rfl hb49 ?_
      refine RW.op1 rfl (runs_lss rfl rfl) ?_
      refine RW.op1 rfl (runs_pick_true rfl hb49 rfl) ?_
      refine RW.done ?_
      exact AQ.meet () hst ⟨rfl, rfl, rfl, rfl, rfl, rfl, rfl, boolN (by simp only [decide_eq_true_eq, true_iff, Bool.false_eq_true, false_iff]; omega), trivial⟩
    · have hb49p := hb49
      try simp only [decide_eq_true_eq, decide_eq_false_iff_not] at hb49p
      refine RW.off_guard rfl rfl rfl rfl hb49 ?_
      refine RW.off_guard rfl rfl rfl rfl hb49 ?_
      refine RW.op1 rfl (runs_pick_false rfl hb49 rfl) ?_
      refine RW.done ?_
      exact AQ.meet () hst ⟨rfl, rfl, rfl, rfl, rfl, rfl, rfl, boolN (by simp only [decide_eq_true_eq, true_iff, Bool.false_eq_true, false_iff]; omega), trivial⟩
  · rintro _ w hstn
    clear hst
    have hst := hstn
    clear hstn
    refine AQ.next ?_
    refine CW.cond rfl (fun hc52 => ?_) (fun hc52 => ?_)
    · have hcb52 := hc52
      try simp only [decide_eq_true_eq, decide_eq_false_iff_not] at hc52
      obtain ⟨hk1, hk2⟩ := hc52
      have ho0 : i64ok (iat ls (k : Int)) := iat_okE hls (by omega) (by omega)
      have ho1 : i64ok (iat ls ((k : Int) + 1)) := iat_okE hls (by omega) (by omega)
      refine CW.skip ?_
      refine AQ.next ?_
      refine CW.seq ?_
      refine CW.block ?_
      refine CW.seq ?_
      -- region 12
      refine CW.drawSt hst (.q 0 (.q 1 (.q 2 (.q 3 (.q 4 (.q 5 (.q 6 (.q 7 (.q 8 (.q 9 (.l 10 (.l 11 (.q 12 .nil))))))))))))) follows (by kernel_rfl) (fun w hst => ?_)
      refine DRW.q rfl rfl (fun w' hF => runs_move rfl) ?_
      refine DRW.q rfl rfl (fun w' hF => runs_move rfl) ?_
      refine DRW.q rfl rfl (fun w' hF => runs_add rfl rfl (by omega)) ?_
      refine DRW.q rfl rfl (fun w' hF => RdL.indexAddr Try.underlying22 ti3 (by decide) rfl rfl hl0 (by omega)) ?_
      first
        | refine DRW.q rfl rfl (FSt.load1 sc3 rfl (RdI.at (by assumption) (by omega) (by omega))) ?_
        | refine DRW.q rfl rfl (FSt.load1_own sc3 rfl (k := 0) rfl rfl) ?_
        | refine DRW.q rfl rfl (FSt.load1_own sc3 rfl (k := 1) rfl rfl) ?_
        | refine DRW.q rfl rfl (FSt.load1_own sc3 rfl (k := 2) rfl rfl) ?_
      refine DRW.q rfl rfl (fun w' hF => runs_move rfl) ?_
      refine DRW.q rfl rfl (fun w' hF => runs_move rfl) ?_
      refine DRW.q rfl rfl (fun w' hF => runs_add rfl rfl (by omega)) ?_
      refine DRW.q rfl rfl (fun w' hF => RdL.indexAddr Try.underlying22 ti3 (by decide) rfl rfl hl0 (by omega)) ?_
      first
        | refine DRW.q rfl rfl (FSt.load1 sc3 rfl (RdI.at (by assumption) (by omega) (by omega))) ?_
        | refine DRW.q rfl rfl (FSt.load1_own sc3 rfl (k := 0) rfl rfl) ?_
        | refine DRW.q rfl rfl (FSt.load1_own sc3 rfl (k := 1) rfl rfl) ?_
        | refine DRW.q rfl rfl (FSt.load1_own sc3 rfl (k := 2) rfl rfl) ?_
      refine DRW.call rfl rfl call8 rfl rfl (within_spec hst (v := iat ls ((k : Int) + 1)) (n := 700) ho1 (by unfold i64ok; decide)) ?_
      rintro e w ⟨rfl, hstn⟩
      clear hst
      have hst := hstn
      clear hstn
      have hw7 := within_range (iat ls ((k : Int) + 1)) 700
      generalize within (iat ls ((k : Int) + 1)) 700 = x7 at *
      refine ⟨_, rfl, FSt.of hst (Imm.le.refl _) (by first | exact (List.sublist_cons_self _ _).trans (List.sublist_append_right _ _) | exact List.Sublist.refl _ | exact List.sublist_cons_self _ _ | exact List.sublist_append_right _ _ | exact (List.sublist_cons_self _ _).trans (List.sublist_cons_self _ _) | exact (List.sublist_append_right _ _).trans (List.sublist_cons_self _ _) | simp), ?_⟩
      refine DRW.call rfl rfl call13 rfl rfl (bytes_spec hst (iat ls ((k : Int) + 1)) x7 ho1 (by omega)) ?_
      rintro e w ⟨I5, vb, hI5, rfl, hstn, hB⟩
      clear hst
      have hst := hstn
      clear hstn
      have hbl : (bytesOf (iat ls ((k : Int) + 1)) x7).length ≤ 3000 := by rw [bytesOf_length]; omega
      generalize bytesOf (iat ls ((k : Int) + 1)) x7 = bb at hB hbl
      have hbn := need_small hbl
      replace hl0 := hl0.mono hI5
      replace hgr := hgr.mono hI5
      replace hle := hle.trans hI5
      refine ⟨_, rfl, FSt.of hst hI5 (by first | exact (List.sublist_cons_self _ _).trans (List.sublist_append_right _ _) | exact List.Sublist.refl _ | exact List.sublist_cons_self _ _ | exact List.sublist_append_right _ _ | exact (List.sublist_cons_self _ _).trans (List.sublist_cons_self _ _) | exact (List.sublist_append_right _ _).trans (List.sublist_cons_self _ _) | simp), ?_⟩
      refine DRW.q rfl rfl (fun w' hF => runs_assign rfl) ?_
      refine DRW.done ?_
      refine AQ.next ?_
      refine CW.seq ?_
      refine CW.seq ?_
      -- region 13
      refine CW.region ?_
      refine RW.op1 rfl (runs_move rfl) ?_
      refine RW.op1 rfl (runs_move rfl) ?_
      refine RW.op1 rfl (RdL.indexAddr Try.underlying22 ti3 (by decide) rfl rfl hl0 (by omega)) ?_
      first
        | refine RW.op1 rfl (runs_load1 sc3 rfl (hst.cell_imm (RdI.at (by assumption) (by omega) (by omega)))) ?_
        | refine RW.op1 rfl (runs_load1 sc3 rfl (hst.cell_own (k := 0) rfl rfl)) ?_
        | refine RW.op1 rfl (runs_load1 sc3 rfl (hst.cell_own (k := 1) rfl rfl)) ?_
        | refine RW.op1 rfl (runs_load1 sc3 rfl (hst.cell_own (k := 2) rfl rfl)) ?_
      refine RW.call rfl call8 rfl rfl (within_spec hst (v := iat ls (k : Int)) (n := 9) ho0 (by unfold i64ok; decide)) ?_
      rintro e w ⟨rfl, hstn⟩
      clear hst
      have hst := hstn
      clear hstn
      have hw9 := within_range (iat ls (k : Int)) 9
      generalize within (iat ls (k : Int)) 9 = x9 at *
      refine ⟨_, rfl, ?_⟩
      refine RW.op1 rfl (runs_assign rfl) ?_
      refine RW.done ?_
      refine AQ.next ?_
      refine CW.block ?_
      refine CW.seq ?_
      -- region 18
      refine CW.region ?_
      refine RW.op1 rfl (runs_move rfl) ?_
      refine RW.op1 rfl (runs_lss rfl rfl) ?_
      refine RW.op1 rfl (runs_assign rfl) ?_
      refine RW.done ?_
      refine AQ.next ?_
      refine CW.cut (Imm × Own × DS × Nat × LG × List (List UInt8) × Value × Own × Int × Int) (fun y w => I.le y.1 ∧ St w0 w y.1 ((y.2.2.2.1, .cells (logV (.pointer (some a1)) y.2.2.2.2.1).toArray 69) :: (y.2.1 ++ (y.2.2.2.2.2.2.2.1 ++ L))) ∧ DiskO (.pointer (some a1)) y.2.2.1 y.2.1 ∧ PL y.2.2.1 y.2.2.2.2.1 y.2.2.2.2.2.1 (k + 2) y.2.2.2.2.2.2.2.2.1 y.2.2.2.2.2.2.2.2.2 ∧ GrowR y.1 33 y.2.2.2.2.2.2.1 y.2.2.2.2.2.1 y.2.2.2.2.2.2.2.1 ∧ RdI y.1 vl ls) (fun y => [(0, vl), (3, .pointer (some a1)), (4, .pointer (some ⟨y.2.2.2.1, 0, none⟩)), (7, y.2.2.2.2.2.2.1), (8, .int .i64 y.2.2.2.2.2.2.2.2.1), (9, .int .i64 y.2.2.2.2.2.2.2.2.2), (10, .int .i64 (k : Nat))]) ?_ ?_
      · refine CW.cond rfl (fun hc92 => ?_) (fun hc92 => ?_)
        · have hcb92 := hc92
          try simp only [decide_eq_true_eq, decide_eq_false_iff_not] at hc92
          refine CW.seq ?_
          -- region 19
          refine CW.region ?_
          refine RW.op1 rfl (runs_assign rfl) ?_
          refine RW.done ?_
          refine AQ.next ?_
          refine CW.seq ?_
          refine CW.seq ?_
          -- region 20
          refine CW.region ?_
          refine RW.op1 rfl (runs_move rfl) ?_
          refine RW.call rfl call24 rfl rfl (need4_spec hst hB (by omega)) ?_
          rintro e w ⟨rfl, hstn⟩
          clear hst
          have hst := hstn
          clear hstn
          have hrg := hpl.rng
          have hpll := hpl.len
          have hpnx := hpl.nx
          refine ⟨_, rfl, ?_⟩
          refine RW.op1 rfl (runs_move rfl) ?_
          refine RW.op1 rfl (runs_gtr rfl rfl) ?_
          refine RW.done ?_
          refine AQ.next ?_
          refine CW.cond rfl (fun hc98 => ?_) (fun hc98 => ?_)
          · have hcb98 := hc98
            try simp only [decide_eq_true_eq, decide_eq_false_iff_not] at hc98
            -- region 21
            refine CW.region ?_
            refine RW.op1 rfl (runs_assign rfl) ?_
            refine RW.done ?_
            refine AQ.next ?_
            refine CW.seq ?_
            refine CW.seq ?_
            -- region 22
            refine CW.region ?_
            refine RW.op1 rfl (runs_move rfl) ?_
            refine RW.op1 rfl (runs_move rfl) ?_
            refine RW.call rfl call18 rfl rfl (append_up hd hst hpl.up hpl.li hB hbn (by omega)) ?_
            rintro e w ⟨I8, LdE, SE, GE, eE, hI8, rfl, hstn, hdE, huE, hap⟩
            clear hst
            have hst := hstn
            clear hstn
            obtain ⟨rfl, hG, hliE, _⟩ := hap.resolve_right (fun h => by have := h.2.1; have := hpl.rm; omega)
            rw [hG] at hst
            have hplE := hpl.keep huE hliE
            have hgrE := hgr.mono hI8
            replace hl0 := hl0.mono hI8
            replace hgr := hgr.mono hI8
            replace hB := hB.mono hI8
            replace hle := hle.trans hI8
            refine ⟨_, rfl, ?_⟩
            refine RW.op1 rfl (runs_move rfl) ?_
            refine RW.op1 rfl (runs_neI rfl rfl) ?_
            refine RW.done ?_
            refine AQ.next ?_
            refine CW.cond rfl (fun hc => absurd hc (by decide)) (fun hc => ?_)
            refine CW.skip ?_
            refine AQ.next ?_
            refine CW.seq ?_
            -- region 24
            refine CW.region ?_
            refine RW.op1 rfl (runs_move rfl) ?_
            refine RW.op1 rfl (runs_eqI rfl rfl) ?_
            refine RW.done ?_
            refine AQ.next ?_
            refine CW.cond rfl (fun hc => absurd hc (by decide)) (fun hc => ?_)
            refine CW.skip ?_
            exact AQ.meet (_, _, _, _, _, _, _, _, _, _) ⟨hle, hst, hdE, hplE, hgrE, hl0⟩ ⟨rfl, rfl, rfl, rfl, rfl, rfl, rfl, trivial⟩
          · have hcb98 := hc98
            try simp only [decide_eq_true_eq, decide_eq_false_iff_not] at hc98
            refine CW.skip ?_
            refine AQ.next ?_
            refine CW.seq ?_
            refine CW.seq ?_
            -- region 22
            refine CW.region ?_
            refine RW.op1 rfl (runs_move rfl) ?_
            refine RW.op1 rfl (runs_move rfl) ?_
            refine RW.call rfl call18 rfl rfl (append_up hd hst hpl.up hpl.li hB hbn (by omega)) ?_
            rintro e w ⟨I9, LdE, SE, GE, eE, hI9, rfl, hstn, hdE, huE, hap⟩
            clear hst
            have hst := hstn
            clear hstn
            obtain ⟨rfl, _, hliE, hgE⟩ := hap.resolve_left (fun h => by have := h.2.2.2; have := hpl.rm; omega)
            have hplE := hpl.append huE hbl hliE hgE
            replace hl0 := hl0.mono hI9
            replace hgr := hgr.mono hI9
            replace hB := hB.mono hI9
            replace hle := hle.trans hI9
            refine ⟨_, rfl, ?_⟩
            refine RW.op1 rfl (runs_move rfl) ?_
            refine RW.op1 rfl (runs_neI rfl rfl) ?_
            refine RW.done ?_
            refine AQ.next ?_
            refine CW.cond rfl (fun hc => absurd hc (by decide)) (fun hc => ?_)
            refine CW.skip ?_
            refine AQ.next ?_
            refine CW.seq ?_
            -- region 24
            refine CW.region ?_
            refine RW.op1 rfl (runs_move rfl) ?_
            refine RW.op1 rfl (runs_eqI rfl rfl) ?_
            refine RW.done ?_
            refine AQ.next ?_
            refine CW.cond rfl (fun hc => ?_) (fun hc => absurd hc (by decide))
            -- region 25
            refine CW.region ?_
            refine RW.op1 rfl (runs_move rfl) ?_
            refine RW.op1 rfl (runs_move rfl) ?_
            refine RW.opE rfl (runs_lit1R (xs := [vb]) Try.underlying29 ti33 (by decide) rfl rfl rfl (by simpa using hB.one) hst) ?_
            rintro u10 w ⟨I10, hI10, hstn, h10⟩
            clear hst
            have hst := hstn
            clear hstn
            replace hl0 := hl0.mono hI10
            replace hgr := hgr.mono hI10
            replace hB := hB.mono hI10
            replace hle := hle.trans hI10
            refine RW.opE rfl (runs_appendRow Try.underlying29 ti33 rfl rfl rfl (hst.perm (perm_out _ LdE Lh L)) hgr (by assumption) hB (by omega) (by unfold maxLen; omega)) ?_
            rintro u11 w ⟨Lv11, hstn, hg11⟩
            clear hst
            have hst := hstn
            clear hstn
            have hgrE := hg11
            replace hst := hst.perm (perm_out _ LdE Lv11 L).symm
            refine RW.op1 rfl (runs_move rfl) ?_
            refine RW.op1 rfl (runs_move rfl) ?_
            refine RW.call rfl call24 rfl rfl (need4_spec hst hB (by omega)) ?_
            rintro e w ⟨rfl, hstn⟩
            clear hst
            have hst := hstn
            clear hstn
            refine ⟨_, rfl, ?_⟩
            refine RW.op1 rfl (runs_sub rfl rfl (by omega)) ?_
            refine RW.op1 rfl (runs_assign rfl) ?_
            refine RW.op1 rfl (runs_assign rfl) ?_
            refine RW.done ?_
            exact AQ.meet (_, _, _, _, _, _, _, _, _, _) ⟨hle, hst, hdE, hplE, hgrE, hl0⟩ ⟨rfl, rfl, rfl, rfl, rfl, rfl, rfl, trivial⟩
        · have hcb92 := hc92
          try simp only [decide_eq_true_eq, decide_eq_false_iff_not] at hc92
          refine CW.seq ?_
          -- region 26
          refine CW.region ?_
          refine RW.op1 rfl (runs_move rfl) ?_
          refine RW.op1 rfl (runs_lss rfl rfl) ?_
          refine RW.op1 rfl (runs_assign rfl) ?_
          refine RW.done ?_
          refine AQ.next ?_
          refine CW.cond rfl (fun hc114 => ?_) (fun hc114 => ?_)
          · have hcb114 := hc114
            try simp only [decide_eq_true_eq, decide_eq_false_iff_not] at hc114
            refine CW.seq ?_
            -- region 27
            refine CW.region ?_
            refine RW.op1 rfl (runs_assign rfl) ?_
            refine RW.done ?_
            refine AQ.next ?_
            refine CW.seq ?_
            -- region 28
            refine CW.region ?_
            refine RW.op1 rfl (runs_assign rfl) ?_
            refine RW.done ?_
            refine AQ.next ?_
            refine CW.seq ?_
            refine CW.seq ?_
            -- region 29
            refine CW.region ?_
            refine RW.op1 rfl (runs_assign rfl) ?_
            refine RW.done ?_
            refine AQ.next ?_
            refine CW.block ?_
            -- loop 2
            refine CW.loop (Nat × Imm × Value × List (List UInt8) × Own) (fun x w => I.le x.2.1 ∧ St w0 w x.2.1 ((lb, .cells (logV (.pointer (some a1)) G).toArray 69) :: (Ld ++ (x.2.2.2.2 ++ (Lh ++ L)))) ∧ GrowR x.2.1 33 x.2.2.1 x.2.2.2.1 x.2.2.2.2 ∧ GrowR x.2.1 33 vh bss Lh ∧ RdI x.2.1 vl ls ∧ (x.2.2.2.1.length = x.1 ∧ x.1 ≤ 3) ∧ ∀ b ∈ x.2.2.2.1, b.length ≤ 3000) (fun x => [(0, vl), (3, .pointer (some a1)), (4, .pointer (some ⟨lb, 0, none⟩)), (7, vh), (8, .int .i64 room), (9, .int .i64 epoch), (10, .int .i64 (k : Nat)), (14, x.2.2.1), (15, .int .i64 (needS x.2.2.2.1 : Nat)), (16, .int .i64 (x.1 : Nat))]) (fun x => 4 - x.1) ⟨(0, _, _, [], []), ⟨hle, hst, GrowR.nil _, hgr, hl0, ⟨rfl, Nat.zero_le _⟩, fun b hb => by cases hb⟩, ⟨rfl, rfl, rfl, rfl, rfl, rfl, rfl, rfl, rfl, rfl, trivial⟩⟩ ?_
            clear hle hst hgr hl0
            rintro ⟨j, IJ, vn, nb, Ln⟩ w ⟨hle, hst, hgn, hgr, hl0, hj, hnb⟩
            dsimp only at hle hst hgn hgr hl0 hj hnb ⊢
            refine CW.seq ?_
            refine CW.seq ?_
            -- region 30
            refine CW.region ?_
            refine RW.op1 rfl (runs_move rfl) ?_
            refine RW.op1 rfl (runs_move rfl) ?_
            refine RW.op1 rfl (runs_move rfl) ?_
            refine RW.op1 rfl (RdL.indexAddr Try.underlying22 ti3 (by decide) rfl rfl hl0 (by omega)) ?_
            first
              | refine RW.op1 rfl (runs_load1 sc3 rfl (hst.cell_imm (RdI.at (by assumption) (by omega) (by omega)))) ?_
              | refine RW.op1 rfl (runs_load1 sc3 rfl (hst.cell_own (k := 0) rfl rfl)) ?_
              | refine RW.op1 rfl (runs_load1 sc3 rfl (hst.cell_own (k := 1) rfl rfl)) ?_
              | refine RW.op1 rfl (runs_load1 sc3 rfl (hst.cell_own (k := 2) rfl rfl)) ?_
            refine RW.call rfl call8 rfl rfl (within_spec hst (v := iat ls (k : Int)) (n := 4) ho0 (by unfold i64ok; decide)) ?_
            rintro e w ⟨rfl, hstn⟩
            clear hst
            have hst := hstn
            clear hstn
            have hw4 := within_range (iat ls (k : Int)) 4
            refine ⟨_, rfl, ?_⟩
            refine RW.op1 rfl (runs_lss rfl rfl) ?_
            refine RW.done ?_
            refine AQ.next ?_
            refine CW.cond rfl (fun hc123 => ?_) (fun hc123 => ?_)
            · have hcb123 := hc123
              try simp only [decide_eq_true_eq, decide_eq_false_iff_not] at hc123
              have hns := needs_bound hnb hj.1
              refine CW.skip ?_
              refine AQ.next ?_
              refine CW.seq ?_
              refine CW.block ?_
              refine CW.seq ?_
              -- region 32
              refine CW.drawSt hst (.q 0 (.q 1 (.q 2 (.q 3 (.q 4 (.q 5 (.q 6 (.q 7 (.q 8 (.q 9 (.q 10 (.q 11 (.q 12 (.q 13 (.q 14 (.l 15 (.l 16 (.q 17 .nil)))))))))))))))))) follows (by kernel_rfl) (fun w hst => ?_)
              refine DRW.q rfl rfl (fun w' hF => runs_move rfl) ?_
              refine DRW.q rfl rfl (fun w' hF => runs_move rfl) ?_
              refine DRW.q rfl rfl (fun w' hF => runs_add rfl rfl (by omega)) ?_
              refine DRW.q rfl rfl (fun w' hF => RdL.indexAddr Try.underlying22 ti3 (by decide) rfl rfl hl0 (by omega)) ?_
              first
                | refine DRW.q rfl rfl (FSt.load1 sc3 rfl (RdI.at (by assumption) (by omega) (by omega))) ?_
                | refine DRW.q rfl rfl (FSt.load1_own sc3 rfl (k := 0) rfl rfl) ?_
                | refine DRW.q rfl rfl (FSt.load1_own sc3 rfl (k := 1) rfl rfl) ?_
                | refine DRW.q rfl rfl (FSt.load1_own sc3 rfl (k := 2) rfl rfl) ?_
              refine DRW.q rfl rfl (fun w' hF => runs_move rfl) ?_
              refine DRW.q rfl rfl (fun w' hF => runs_addW rfl rfl) ?_
              refine DRW.q rfl rfl (fun w' hF => runs_move rfl) ?_
              refine DRW.q rfl rfl (fun w' hF => runs_move rfl) ?_
              refine DRW.q rfl rfl (fun w' hF => runs_add rfl rfl (by omega)) ?_
              refine DRW.q rfl rfl (fun w' hF => RdL.indexAddr Try.underlying22 ti3 (by decide) rfl rfl hl0 (by omega)) ?_
              first
                | refine DRW.q rfl rfl (FSt.load1 sc3 rfl (RdI.at (by assumption) (by omega) (by omega))) ?_
                | refine DRW.q rfl rfl (FSt.load1_own sc3 rfl (k := 0) rfl rfl) ?_
                | refine DRW.q rfl rfl (FSt.load1_own sc3 rfl (k := 1) rfl rfl) ?_
                | refine DRW.q rfl rfl (FSt.load1_own sc3 rfl (k := 2) rfl rfl) ?_
              refine DRW.q rfl rfl (fun w' hF => runs_move rfl) ?_
              refine DRW.q rfl rfl (fun w' hF => runs_add rfl rfl (by omega)) ?_
              refine DRW.q rfl rfl (fun w' hF => runs_quo rfl rfl (by omega)) ?_
              refine DRW.call rfl rfl call8 rfl rfl (within_spec hst (v := IntKind.i64.wrap ((iat ls ((k : Int) + 1)).tdiv ((j : Int) + 1))) (n := 2200) (wrap_ok _) (by unfold i64ok; decide)) ?_
              rintro e w ⟨rfl, hstn⟩
              clear hst
              have hst := hstn
              clear hstn
              have hw22 := within_range (IntKind.i64.wrap ((iat ls ((k : Int) + 1)).tdiv ((j : Int) + 1))) 2200
              generalize within (IntKind.i64.wrap ((iat ls ((k : Int) + 1)).tdiv ((j : Int) + 1))) 2200 = x22 at *
              refine ⟨_, rfl, FSt.of hst (Imm.le.refl _) (by first | exact (List.sublist_cons_self _ _).trans (List.sublist_append_right _ _) | exact List.Sublist.refl _ | exact List.sublist_cons_self _ _ | exact List.sublist_append_right _ _ | exact (List.sublist_cons_self _ _).trans (List.sublist_cons_self _ _) | exact (List.sublist_append_right _ _).trans (List.sublist_cons_self _ _) | simp), ?_⟩
              refine DRW.call rfl rfl call13 rfl rfl (bytes_spec hst (IntKind.i64.wrap (iat ls ((k : Int) + 1) + (j : Int))) x22 (wrap_ok _) (by omega)) ?_
              rintro e w ⟨I15, vc, hI15, rfl, hstn, hC⟩
              clear hst
              have hst := hstn
              clear hstn
              have hcl : (bytesOf (IntKind.i64.wrap (iat ls ((k : Int) + 1) + (j : Int))) x22).length ≤ 3000 := by rw [bytesOf_length]; omega
              generalize bytesOf (IntKind.i64.wrap (iat ls ((k : Int) + 1) + (j : Int))) x22 = cc at hC hcl
              have hcn := need_small hcl
              replace hgn := hgn.mono hI15
              replace hgr := hgr.mono hI15
              replace hl0 := hl0.mono hI15
              replace hle := hle.trans hI15
              refine ⟨_, rfl, FSt.of hst hI15 (by first | exact (List.sublist_cons_self _ _).trans (List.sublist_append_right _ _) | exact List.Sublist.refl _ | exact List.sublist_cons_self _ _ | exact List.sublist_append_right _ _ | exact (List.sublist_cons_self _ _).trans (List.sublist_cons_self _ _) | exact (List.sublist_append_right _ _).trans (List.sublist_cons_self _ _) | simp), ?_⟩
              refine DRW.q rfl rfl (fun w' hF => runs_assign rfl) ?_
              refine DRW.done ?_
              refine AQ.next ?_
              -- region 33
              refine CW.region ?_
              refine RW.op1 rfl (runs_move rfl) ?_
              refine RW.op1 rfl (runs_move rfl) ?_
              refine RW.opE rfl (runs_lit1R (xs := [vc]) Try.underlying29 ti33 (by decide) rfl rfl rfl (by simpa using hC.one) hst) ?_
              rintro u16 w ⟨I16, hI16, hstn, h16⟩
              clear hst
              have hst := hstn
              clear hstn
              replace hgn := hgn.mono hI16
              replace hgr := hgr.mono hI16
              replace hl0 := hl0.mono hI16
              replace hC := hC.mono hI16
              replace hle := hle.trans hI16
              refine RW.opE rfl (runs_appendRow Try.underlying29 ti33 rfl rfl rfl (hst.perm (perm_out _ Ld Ln (Lh ++ L))) hgn (by assumption) hC (by omega) (by unfold maxLen; omega)) ?_
              rintro u17 w ⟨Lv17, hstn, hg17⟩
              clear hst
              have hst := hstn
              clear hstn
              have hgn2 := hg17
              replace hst := hst.perm (perm_out _ Ld Lv17 (Lh ++ L)).symm
              refine RW.op1 rfl (runs_move rfl) ?_
              refine RW.op1 rfl (runs_move rfl) ?_
              refine RW.call rfl call24 rfl rfl (need4_spec hst hC (by omega)) ?_
              rintro e w ⟨rfl, hstn⟩
              clear hst
              have hst := hstn
              clear hstn
              refine ⟨_, rfl, ?_⟩
              refine RW.op1 rfl (runs_add rfl rfl (by omega)) ?_
              refine RW.op1 rfl (runs_assign rfl) ?_
              refine RW.op1 rfl (runs_assign rfl) ?_
              refine RW.done ?_
              refine AQ.block_normal ?_
              refine AQ.next ?_
              -- region 31
              refine CW.region ?_
              refine RW.op1 rfl (runs_move rfl) ?_
              refine RW.op1 rfl (runs_add rfl rfl (by omega)) ?_
              refine RW.op1 rfl (runs_assign rfl) ?_
              refine RW.done ?_
              exact AQ.again (x := (j, IJ, vn, nb, Ln)) (j + 1, _, _, nb ++ [cc], _) ⟨hle, hst, hgn2, hgr, hl0, ⟨by rw [List.length_append]; simp; omega, by dsimp only; omega⟩, fun b hb => by
                rcases List.mem_append.1 hb with hb | hb
                · exact hnb b hb
                · rw [List.mem_singleton] at hb
                  subst hb
                  exact hcl⟩ ⟨rfl, rfl, rfl, rfl, rfl, rfl, rfl, rfl, by rw [needS_snoc]; rfl, rfl, trivial⟩ (by dsimp only; omega)
            · have hcb123 := hc123
              try simp only [decide_eq_true_eq, decide_eq_false_iff_not] at hc123
              have hns := needs_bound hnb hj.1
              refine CW.exit ?_
              refine AQ.past_exit ?_
              refine AQ.past_exit ?_
              refine AQ.block_hit ?_
              refine AQ.next ?_
              refine CW.seq ?_
              -- region 34
              refine CW.region ?_
              refine RW.op1 rfl (runs_assign rfl) ?_
              refine RW.done ?_
              refine AQ.next ?_
              refine CW.seq ?_
              refine CW.seq ?_
              -- region 35
              refine CW.region ?_
              refine RW.op1 rfl (runs_move rfl) ?_
              refine RW.op1 rfl (runs_gtr rfl rfl) ?_
              refine RW.done ?_
              refine AQ.next ?_
              refine CW.cond rfl (fun hc152 => ?_) (fun hc152 => ?_)
              · have hcb152 := hc152
                try simp only [decide_eq_true_eq, decide_eq_false_iff_not] at hc152
                -- region 36
                refine CW.region ?_
                refine RW.op1 rfl (runs_assign rfl) ?_
                refine RW.done ?_
                refine AQ.next ?_
                refine CW.seq ?_
                refine CW.seq ?_
                -- region 37
                refine CW.region ?_
                refine RW.op1 rfl (runs_move rfl) ?_
                refine RW.op1 rfl (runs_move rfl) ?_
                refine RW.call rfl call22 rfl rfl (turn_own hd hst hpl.up hpl.li hgn (by omega) (fun b hb => need_small (hnb b hb)) (by have := hpl.nx; omega) (by have := hpl.n; omega)) ?_
                rintro e w ⟨I19, LdE, SE, GE, eE, hI19, rfl, hstn, hdE, huE, htu⟩
                clear hst
                have hst := hstn
                clear hstn
                have hrg := hpl.rng
                obtain ⟨rfl, hG, hliE, _⟩ := htu.resolve_right (fun h => by have := h.2.1; omega)
                rw [hG] at hst
                have hplE := hpl.keep huE hliE
                replace hst := hst.sub (sub_b _ LdE Ln (Lh ++ L))
                have hgrE := hgr.mono hI19
                replace hgn := hgn.mono hI19
                replace hgr := hgr.mono hI19
                replace hl0 := hl0.mono hI19
                replace hle := hle.trans hI19
                refine ⟨_, rfl, ?_⟩
                refine RW.op1 rfl (runs_move rfl) ?_
                refine RW.op1 rfl (runs_neI rfl rfl) ?_
                refine RW.done ?_
                refine AQ.next ?_
                refine CW.cond rfl (fun hc => absurd hc (by decide)) (fun hc => ?_)
                refine CW.skip ?_
                refine AQ.next ?_
                refine CW.seq ?_
                -- region 39
                refine CW.region ?_
                refine RW.op1 rfl (runs_move rfl) ?_
                refine RW.op1 rfl (runs_eqI rfl rfl) ?_
                refine RW.done ?_
                refine AQ.next ?_
                refine CW.cond rfl (fun hc => absurd hc (by decide)) (fun hc => ?_)
                refine CW.skip ?_
                exact AQ.meet (_, _, _, _, _, _, _, _, _, _) ⟨hle, hst, hdE, hplE, hgrE, hl0⟩ ⟨rfl, rfl, rfl, rfl, rfl, rfl, rfl, trivial⟩
              · have hcb152 := hc152
                try simp only [decide_eq_true_eq, decide_eq_false_iff_not] at hc152
                refine CW.skip ?_
                refine AQ.next ?_
                refine CW.seq ?_
                refine CW.seq ?_
                -- region 37
                refine CW.region ?_
                refine RW.op1 rfl (runs_move rfl) ?_
                refine RW.op1 rfl (runs_move rfl) ?_
                refine RW.call rfl call22 rfl rfl (turn_own hd hst hpl.up hpl.li hgn (by omega) (fun b hb => need_small (hnb b hb)) (by have := hpl.nx; omega) (by have := hpl.n; omega)) ?_
                rintro e w ⟨I20, LdE, SE, GE, eE, hI20, rfl, hstn, hdE, huE, htu⟩
                clear hst
                have hst := hstn
                clear hstn
                have hrg := hpl.rng
                obtain ⟨rfl, _, hliE, hgE⟩ := htu.resolve_left (fun h => by have := h.2.2.2; omega)
                have hplE := hpl.turn huE hnb (by omega) hliE hgE
                replace hst := hst.sub (sub_c _ LdE Ln Lh L)
                have hgrE := hgn.mono hI20
                replace hgn := hgn.mono hI20
                replace hgr := hgr.mono hI20
                replace hl0 := hl0.mono hI20
                replace hle := hle.trans hI20
                refine ⟨_, rfl, ?_⟩
                refine RW.op1 rfl (runs_move rfl) ?_
                refine RW.op1 rfl (runs_neI rfl rfl) ?_
                refine RW.done ?_
                refine AQ.next ?_
                refine CW.cond rfl (fun hc => absurd hc (by decide)) (fun hc => ?_)
                refine CW.skip ?_
                refine AQ.next ?_
                refine CW.seq ?_
                -- region 39
                refine CW.region ?_
                refine RW.op1 rfl (runs_move rfl) ?_
                refine RW.op1 rfl (runs_eqI rfl rfl) ?_
                refine RW.done ?_
                refine AQ.next ?_
                refine CW.cond rfl (fun hc => ?_) (fun hc => absurd hc (by decide))
                -- region 40
                refine CW.region ?_
                refine RW.op1 rfl (runs_move rfl) ?_
                refine RW.op1 rfl (runs_move rfl) ?_
                refine RW.op1 rfl (runs_sub rfl rfl (by omega)) ?_
                refine RW.op1 rfl (runs_assign rfl) ?_
                refine RW.op1 rfl (runs_assign rfl) ?_
                refine RW.done ?_
                exact AQ.meet (_, _, _, _, _, _, _, _, _, _) ⟨hle, hst, hdE, hplE, hgrE, hl0⟩ ⟨rfl, rfl, rfl, rfl, rfl, rfl, rfl, trivial⟩
          · have hcb114 := hc114
            try simp only [decide_eq_true_eq, decide_eq_false_iff_not] at hc114
            refine CW.seq ?_
            refine CW.seq ?_
            -- region 14
            refine CW.region ?_
            refine RW.op1 rfl (runs_move rfl) ?_
            refine RW.call rfl call11 rfl rfl (open_up hd hst.drop1 hpl.up hpl.li.pn hpl.li.di (by have := hpl.n; have := hpl.e; omega)) ?_
            rintro e w ⟨I21, LdE, lbE, yE, vsE, SE, hI21, rfl, hstn, hdE, hrE, hliE, huE⟩
            clear hst
            have hst := hstn
            clear hstn
            have hrg := hpl.rng
            have hplE := hpl.open huE hliE
            have hpll := hpl.len
            replace hl0 := hl0.mono hI21
            replace hgr := hgr.mono hI21
            replace hB := hB.mono hI21
            replace hle := hle.trans hI21
            refine ⟨_, rfl, ?_⟩
            refine RW.op1 rfl (runs_move rfl) ?_
            refine RW.op1 rfl (runs_extract rfl rfl) ?_
            refine RW.op1 rfl (runs_extract rfl rfl) ?_
            refine RW.op1 rfl (runs_extract rfl rfl) ?_
            refine RW.op1 rfl (runs_assign rfl) ?_
            refine RW.op1 rfl (runs_assign rfl) ?_
            refine RW.op1 rfl (runs_assign rfl) ?_
            refine RW.done ?_
            refine AQ.next ?_
            refine CW.seq ?_
            -- region 15
            refine CW.region ?_
            refine RW.op1 rfl (runs_move rfl) ?_
            refine RW.op1 rfl (runs_neI rfl rfl) ?_
            refine RW.op1 rfl (runs_move rfl) ?_
            have hk80 := (show decide ((0 : Int) ≠ 0) = false by decide)
            refine RW.on_guard rfl rfl rfl rfl hk80 ?_
            refine RW.op1 rfl (runs_move rfl) ?_
            refine RW.on_guard rfl rfl rfl rfl hk80 ?_
            refine RW.op1 rfl (runs_eq_nilptr Try.underlying28 rfl) ?_
            refine RW.op1 rfl (runs_pick_false rfl hk80 rfl) ?_
            refine RW.op1 rfl (runs_move rfl) ?_
            have hk84 := (show (Option.isNone (some (⟨lbE, 0, none⟩ : Addr))) = false from rfl)
            refine RW.on_guard rfl rfl rfl rfl hk84 ?_
            refine RW.op1 rfl (runs_move rfl) ?_
            refine RW.on_guard rfl rfl rfl rfl hk84 ?_
            refine RW.op1 rfl (runs_move rfl) ?_
            refine RW.on_guard rfl rfl rfl rfl hk84 ?_
            refine RW.call rfl call25 rfl rfl (same_own (hst.perm (perm_out _ LdE Lh L)) hrE hgr (fun x hx => by have := hpl.sz x hx; omega) (by omega)) ?_
            rintro e w ⟨I22, hI22, rfl, hstn⟩
            clear hst
            have hst := hstn
            clear hstn
            replace hst := hst.perm (perm_out _ LdE Lh L).symm
            have hgrE := hgr.mono hI22
            replace hl0 := hl0.mono hI22
            replace hgr := hgr.mono hI22
            replace hB := hB.mono hI22
            replace hrE := hrE.mono hI22
            replace hle := hle.trans hI22
            refine ⟨_, rfl, ?_⟩
            refine RW.on_guard rfl rfl rfl rfl hk84 ?_
            refine RW.op1 rfl (runs_not rfl) ?_
            refine RW.op1 rfl (runs_pick_false rfl hk84 rfl) ?_
            refine RW.done ?_
            refine AQ.next ?_
            refine CW.cond rfl (fun hc => absurd hc (by simp)) (fun hc => ?_)
            refine CW.skip ?_
            refine AQ.next ?_
            -- region 17
            refine CW.region ?_
            refine RW.op1 rfl (runs_move rfl) ?_
            refine RW.op1 rfl (runs_add rfl rfl (by omega)) ?_
            refine RW.op1 rfl (runs_assign rfl) ?_
            refine RW.done ?_
            exact AQ.meet (_, _, _, _, _, _, _, _, _, _) ⟨hle, hst, hdE, hplE, hgrE, hl0⟩ ⟨rfl, rfl, rfl, rfl, rfl, rfl, rfl, trivial⟩
      · clear hle hst hd hpl hgr hl0
        rintro ⟨IK, Ld, S, lb, G, bss, vh, Lh, room, epoch⟩ w ⟨hle, hst, hd, hpl, hgr, hl0⟩
        dsimp only at hle hst hd hpl hgr hl0 ⊢
        refine AQ.block_normal ?_
        refine AQ.next ?_
        refine CW.seq ?_
        -- region 41
        refine CW.region ?_
        refine RW.op1 rfl (runs_move rfl) ?_
        refine RW.call rfl call23 rfl rfl (room_spec hst (by have := hpl.rng; omega) (by have := hpl.rng; omega)) ?_
        rintro e w ⟨rfl, hstn⟩
        clear hst
        have hst := hstn
        clear hstn
        refine ⟨_, rfl, ?_⟩
        refine RW.op1 rfl (runs_move rfl) ?_
        refine RW.op1 rfl (runs_neI rfl rfl) ?_
        refine RW.op1 rfl (runs_move rfl) ?_
        have hk167 := (show decide (beginR G.s.h + 256 - G.at_ ≠ room) = false by have := hpl.rng; simp; omega)
        refine RW.on_guard rfl rfl rfl rfl hk167 ?_
        refine RW.op1 rfl (runs_move rfl) ?_
        refine RW.on_guard rfl rfl rfl rfl hk167 ?_
        refine RW.call rfl call16 rfl rfl (epoch_spec hst) ?_
        rintro e w ⟨rfl, hstn⟩
        clear hst
        have hst := hstn
        clear hstn
        refine ⟨_, rfl, ?_⟩
        refine RW.on_guard rfl rfl rfl rfl hk167 ?_
        refine RW.op1 rfl (runs_move rfl) ?_
        refine RW.on_guard rfl rfl rfl rfl hk167 ?_
        refine RW.op1 rfl (runs_neI rfl rfl) ?_
        refine RW.op1 rfl (runs_pick_false rfl hk167 rfl) ?_
        refine RW.op1 rfl (runs_move rfl) ?_
        have hk173 := (show decide (G.s.e ≠ epoch) = false by rw [hpl.ep]; simp)
        refine RW.on_guard rfl rfl rfl rfl hk173 ?_
        refine RW.op1 rfl (runs_move rfl) ?_
        refine RW.on_guard rfl rfl rfl rfl hk173 ?_
        refine RW.call rfl call15 rfl rfl (pending_spec hd (hst.perm List.perm_middle.symm)) ?_
        rintro e w ⟨rfl, hstn⟩
        clear hst
        have hst := hstn
        clear hstn
        replace hst := hst.perm List.perm_middle
        rw [hpl.li.pn]
        refine ⟨_, rfl, ?_⟩
        refine RW.on_guard rfl rfl rfl rfl hk173 ?_
        refine RW.op1 rfl (runs_neI rfl rfl) ?_
        refine RW.op1 rfl (runs_pick_false rfl hk173 rfl) ?_
        refine RW.done ?_
        refine AQ.next ?_
        refine CW.cond rfl (fun hc => absurd hc (by decide)) (fun hc => ?_)
        refine CW.skip ?_
        refine AQ.block_normal ?_
        refine AQ.next ?_
        -- region 11
        refine CW.region ?_
        refine RW.op1 rfl (runs_move rfl) ?_
        refine RW.op1 rfl (runs_add rfl rfl (by omega)) ?_
        refine RW.op1 rfl (runs_assign rfl) ?_
        refine RW.done ?_
        exact AQ.again (x := ((I, Ld, S, lb, G, bss, vh, Lh, room, epoch), k)) ((_, Ld, S, lb, G, bss, vh, Lh, room, epoch), k + 2) ⟨⟨hle, hst, hd, hpl, hgr, hl0⟩, by dsimp only; omega⟩ ⟨rfl, rfl, rfl, rfl, rfl, rfl, rfl, trivial⟩ (by dsimp only; omega)
    · have hcb52 := hc52
      try simp only [decide_eq_true_eq, decide_eq_false_iff_not] at hc52
      skip
      refine CW.exit ?_
      refine AQ.past_exit ?_
      refine AQ.past_exit ?_
      refine AQ.block_hit ?_
      refine AQ.next ?_
      refine CW.seq ?_
      -- region 43
      refine CW.region ?_
      refine RW.op1 rfl (runs_move rfl) ?_
      refine RW.call rfl call11 rfl rfl (open_up hd hst.drop1 hpl.up hpl.li.pn hpl.li.di (by have := hpl.n; have := hpl.e; omega)) ?_
      rintro e w ⟨I26, LdE, lbE, yE, vsE, SE, hI26, rfl, hstn, hdE, hrE, hliE, huE⟩
      clear hst
      have hst := hstn
      clear hstn
      have hpll := hpl.len
      replace hl0 := hl0.mono hI26
      replace hgr := hgr.mono hI26
      replace hle := hle.trans hI26
      refine ⟨_, rfl, ?_⟩
      refine RW.op1 rfl (runs_move rfl) ?_
      refine RW.op1 rfl (runs_extract rfl rfl) ?_
      refine RW.op1 rfl (runs_extract rfl rfl) ?_
      refine RW.op1 rfl (runs_extract rfl rfl) ?_
      refine RW.op1 rfl (runs_assign rfl) ?_
      refine RW.op1 rfl (runs_assign rfl) ?_
      refine RW.done ?_
      refine AQ.next ?_
      refine CW.seq ?_
      -- region 44
      refine CW.region ?_
      refine RW.op1 rfl (runs_move rfl) ?_
      refine RW.op1 rfl (runs_eqI rfl rfl) ?_
      refine RW.op1 rfl (runs_move rfl) ?_
      have hk186 := (show decide ((0 : Int) = 0) = true by decide)
      refine RW.on_guard rfl rfl rfl rfl hk186 ?_
      refine RW.op1 rfl (runs_move rfl) ?_
      refine RW.on_guard rfl rfl rfl rfl hk186 ?_
      refine RW.op1 rfl (runs_move rfl) ?_
      refine RW.on_guard rfl rfl rfl rfl hk186 ?_
      refine RW.call rfl call25 rfl rfl (same_own (hst.perm (perm_out _ LdE Lh L)) hrE hgr (fun x hx => by have := hpl.sz x hx; omega) (by omega)) ?_
      rintro e w ⟨I27, hI27, rfl, hstn⟩
      clear hst
      have hst := hstn
      clear hstn
      replace hl0 := hl0.mono hI27
      replace hgr := hgr.mono hI27
      replace hrE := hrE.mono hI27
      replace hle := hle.trans hI27
      refine ⟨_, rfl, ?_⟩
      refine RW.op1 rfl (runs_pick_true rfl hk186 rfl) ?_
      refine RW.op1 rfl (runs_move rfl) ?_
      have hk191 := (show decide (bss = bss) = true by simp)
      refine RW.on_guard rfl rfl rfl rfl hk191 ?_
      refine RW.call rfl call19 rfl rfl (wakes04_spec hst) ?_
      rintro e w ⟨rfl, I28, hI28, hstn⟩
      clear hst
      have hst := hstn
      clear hstn
      replace hl0 := hl0.mono hI28
      replace hgr := hgr.mono hI28
      replace hrE := hrE.mono hI28
      replace hle := hle.trans hI28
      refine ⟨_, rfl, ?_⟩
      refine RW.op1 rfl (runs_pick_true rfl hk191 rfl) ?_
      refine RW.op1 rfl (runs_assign rfl) ?_
      refine RW.done ?_
      refine AQ.next ?_
      refine CW.ret ?_
      refine AQ.ret1 rfl rfl ?_
      exact ⟨rfl, _, hle, hst.sub (((List.sublist_append_right _ _).trans (List.sublist_cons_self _ _)).trans (List.sublist_append_right _ _))⟩
end Go.Proofs.YthocicjjighbnaaX
