/- A log turned again and again, and cut off: the walk. -/
import Derived.Test.YthocicjjighbnaaT
import Derived.Test.YthocicjjighbnaaG13
namespace Go.Proofs.YthocicjjighbnaaX
set_option linter.unusedVariables false
set_option linter.unusedSimpArgs false
open Go Go.RowKit Go.Proofs

/-- What stands on the disk, within bounds. -/
structure TD (X : List (List UInt8)) (s : Slot) (bss : List (List UInt8)) (a nx : Int) (k : Nat) : Prop where
  di : DI X s bss a nx
  n : s.n ≤ 2 + 2 * (k : Int)
  e : s.e ≤ 2 + (k : Int)
  nx : nx ≤ 1 + 3 * (k : Int)
  at_ : a ≤ beginR s.h + 12 + 4 * (k : Int)
  len : bss.length ≤ 3 + k
  sz : ∀ b ∈ bss, b.length ≤ 60
structure TL (S : DS) (G : LG) (bss : List (List UInt8)) (k : Nat) : Prop where
  up : Up S
  li : LI S G bss
  td : TD S.secs G.s bss G.at_ G.nx k
theorem need60 {b : List UInt8} (h : b.length ≤ 60) : needN b.length ≤ 4 := by unfold needN; omega
theorem TL.turn {S S' : DS} {G G' : LG} {bss nb : List (List UInt8)} {k : Nat} (h : TD S.secs G.s bss G.at_ G.nx k) (hsz : ∀ b ∈ nb, b.length ≤ 60) (hl : nb.length ≤ 3) (hli : LI S' G' nb) (hg : G' = ⟨turnS G, beginR (1 - G.s.h) + (needS nb : Nat), G.nx + (nb.length : Nat), 0⟩) : TD S'.secs G'.s nb G'.at_ G'.nx (k + 1) := by
  have hn : needS nb ≤ 4 * nb.length := by
    clear hli hg hl
    induction nb with
    | nil => exact Nat.le_refl _
    | cons b r ih =>
      rw [needS_cons, List.length_cons]
      have h1 := ih (fun c hc => hsz c (List.mem_cons_of_mem _ hc))
      have h2 := need60 (hsz b (List.mem_cons_self ..))
      omega
  subst hg
  have h1 := h.n
  have h2 := h.e
  have h3 := h.nx
  refine ⟨hli.di, ?_, ?_, ?_, ?_, by omega, hsz⟩
  · show G.s.n + 1 ≤ _; omega
  · show G.s.e ≤ _; omega
  · show G.nx + (nb.length : Nat) ≤ _; omega
  · show beginR (1 - G.s.h) + (needS nb : Nat) ≤ beginR (1 - G.s.h) + 12 + 4 * (((k + 1 : Nat)) : Int); omega
theorem TL.append {S S' : DS} {G G' : LG} {bss : List (List UInt8)} {b : List UInt8} {k : Nat} (h : TD S.secs G.s bss G.at_ G.nx k) (hsz : b.length ≤ 60) (hli : LI S' G' (bss ++ [b])) (hg : G' = G.to (G.at_ + (needN b.length : Nat)) (G.nx + 1)) : TD S'.secs G'.s (bss ++ [b]) G'.at_ G'.nx (k + 1) := by
  subst hg
  have h1 := h.n
  have h2 := h.e
  have h3 := h.nx
  have h4 := h.at_
  have h5 := h.len
  have h6 := need60 hsz
  refine ⟨hli.di, ?_, ?_, ?_, ?_, by rw [List.length_append]; simp; omega, fun c hc => ?_⟩
  · show G.s.n ≤ _; omega
  · show G.s.e ≤ _; omega
  · show G.nx + 1 ≤ _; omega
  · show G.at_ + (needN b.length : Nat) ≤ beginR G.s.h + 12 + 4 * (((k + 1 : Nat)) : Int); omega
  · rcases List.mem_append.1 hc with hc | hc
    · exact h.sz c hc
    · rw [List.mem_singleton] at hc
      subst hc
      exact hsz
theorem TD.mono {X : List (List UInt8)} {s : Slot} {bss : List (List UInt8)} {a nx : Int} {k : Nat} (h : TD X s bss a nx k) : TD X s bss a nx (k + 1) :=
  ⟨h.di, by have := h.n; omega, by have := h.e; omega, by have := h.nx; omega, by have := h.at_; omega, by have := h.len; omega, h.sz⟩
/-- Opened with power, behind a crash. -/
theorem TD.open {X : List (List UInt8)} {S' : DS} {s : Slot} {bss : List (List UInt8)} {a nx : Int} {k : Nat} (h : TD X s bss a nx k) (h1 : s.n ≤ 3 + 2 * ((k : Nat) : Int) - 2) (h2 : s.e ≤ 1 + (k : Int)) (hli : LI S' ⟨s.up, a, nx, 0⟩ bss) (hu : Up S') : TL S' ⟨s.up, a, nx, 0⟩ bss k := by
  refine ⟨hu, hli, hli.di, ?_, ?_, h.nx, h.at_, h.len, h.sz⟩
  · show s.n + 1 ≤ _; omega
  · show s.e + 1 ≤ _; omega
theorem TD.fit {X : List (List UInt8)} {s : Slot} {bss : List (List UInt8)} {a nx : Int} {k : Nat} (h : TD X s bss a nx k) (hk : k ≤ 50) : s.n < 16777214 ∧ s.e < 65535 ∧ nx + 1000 ≤ 16777215 ∧ beginR s.h + 256 - a ≥ 4 ∧ bss.length ≤ 1000 := by
  have h1 := h.n
  have h2 := h.e
  have h3 := h.nx
  have h4 := h.at_
  have h5 := h.len
  omega
theorem rows0 {I : Imm} : RdR I (.slice none 0 0) [] [] := ⟨RdL.nil 1, rfl, fun i u b h => by simp at h⟩
theorem tl0 {S : DS} (hu : Up S) (h : LI S ⟨slot1.up, 2, 1, 0⟩ []) : TL S ⟨slot1.up, 2, 1, 0⟩ [] 0 := ⟨hu, h, h.di, by decide, by decide, by decide, by decide, by decide, fun b hb => by cases hb⟩
set_option maxRecDepth 100000 in
set_option maxHeartbeats 4000000 in
theorem lturns_spec {w0 w : World} {I : Imm} {L : Own} (hst : St w0 w I L) {vz vk : Value} {zs ks : List Int} (hz0 : RdI I vz zs) (hzs : ∀ x ∈ zs, i64ok x) (cut : Int) (hcut : i64ok cut) (hk0 : RdI I vk ks) (hks : ∀ x ∈ ks, i64ok x) (hkl : ks.length ≤ 1048576) :
    Calls Try.prog 6 #[vz, .int .i64 cut, vk] w fun e w' => e = .returned (.bool true) ∧ ∃ I', I.le I' ∧ St w0 w' I' L := by
  refine enter Try.func6 rfl (N := 159) rfl rfl ?_
  simp only [List.zipIdx_cons, List.zipIdx_nil, List.map_cons, List.map_nil, Nat.zero_add, Nat.reduceAdd]
  have hle := Imm.le.refl I
  refine CW.seq ?_
  -- region 0
  refine CW.region ?_
  refine RW.op1 rfl (runs_assign rfl) ?_
  refine RW.done ?_
  refine AQ.next ?_
  refine CW.seq ?_
  -- region 1
  refine CW.region ?_
  refine RW.call rfl call9 rfl rfl (new_spec hst 514) ?_
  rintro e w ⟨_, Ld, rfl, _, hstn, hd, a1, rfl⟩
  clear hst
  have hst := hstn
  clear hstn
  rw [newR_L] at hd
  refine ⟨_, rfl, ?_⟩
  refine RW.op1 rfl (runs_assign rfl) ?_
  refine RW.done ?_
  refine AQ.next ?_
  refine CW.seq ?_
  refine CW.seq ?_
  -- region 2
  refine CW.region ?_
  refine RW.op1 rfl (runs_move rfl) ?_
  refine RW.op1 rfl (runs_eq_nilptr Try.underlying24 rfl) ?_
  refine RW.op1 rfl (runs_move rfl) ?_
  have hk21 := (show (Option.isNone (some a1)) = false from rfl)
  refine RW.on_guard rfl rfl rfl rfl hk21 ?_
  refine RW.op1 rfl (runs_move rfl) ?_
  refine RW.on_guard rfl rfl rfl rfl hk21 ?_
  refine RW.call rfl call10 rfl rfl (format_up hd hst ⟨rfl, rfl⟩ (List.length_replicate ..) (Nat.zero_le _)) ?_
  rintro e w ⟨I2, Ld2, S2, hI2, rfl, hstn, hd2, hu2, hp2, hdi2⟩
  clear hst
  have hst := hstn
  clear hstn
  replace hz0 := hz0.mono hI2
  replace hk0 := hk0.mono hI2
  replace hle := hle.trans hI2
  refine ⟨_, rfl, ?_⟩
  refine RW.on_guard rfl rfl rfl rfl hk21 ?_
  refine RW.op1 rfl (runs_neI rfl rfl) ?_
  refine RW.op1 rfl (runs_pick_false rfl hk21 rfl) ?_
  refine RW.done ?_
  refine AQ.next ?_
  refine CW.cond rfl (fun hc => absurd hc (by decide)) (fun hc => ?_)
  refine CW.skip ?_
  refine AQ.next ?_
  refine CW.seq ?_
  -- region 4
  refine CW.region ?_
  refine RW.op1 rfl (runs_move rfl) ?_
  refine RW.call rfl call11 rfl rfl (open_up hd2 hst hu2 hp2 hdi2 (by decide)) ?_
  rintro e w ⟨I3, Ld3, lb, y, vs, S3, hI3, rfl, hstn, hd3, hr3, hli3, hu3⟩
  clear hst
  have hst := hstn
  clear hstn
  replace hz0 := hz0.mono hI3
  replace hk0 := hk0.mono hI3
  replace hle := hle.trans hI3
  refine ⟨_, rfl, ?_⟩
  refine RW.op1 rfl (runs_move rfl) ?_
  refine RW.op1 rfl (runs_extract rfl rfl) ?_
  refine RW.op1 rfl (runs_extract rfl rfl) ?_
  refine RW.op1 rfl (runs_extract rfl rfl) ?_
  refine RW.op1 rfl (runs_assign rfl) ?_
  refine RW.op1 rfl (runs_assign rfl) ?_
  refine RW.op1 rfl (runs_assign rfl) ?_
  refine RW.done ?_
  refine AQ.next ?_
  refine CW.seq ?_
  refine CW.seq ?_
  -- region 5
  refine CW.region ?_
  refine RW.op1 rfl (runs_move rfl) ?_
  refine RW.op1 rfl (runs_neI rfl rfl) ?_
  refine RW.op1 rfl (runs_move rfl) ?_
  have hk34 := (show decide ((0 : Int) ≠ 0) = false by decide)
  refine RW.on_guard rfl rfl rfl rfl hk34 ?_
  refine RW.op1 rfl (runs_move rfl) ?_
  refine RW.on_guard rfl rfl rfl rfl hk34 ?_
  refine RW.op1 rfl (runs_eq_nilptr Try.underlying28 rfl) ?_
  refine RW.op1 rfl (runs_pick_false rfl hk34 rfl) ?_
  refine RW.done ?_
  refine AQ.next ?_
  refine CW.cond rfl (fun hc => absurd hc (by rw [(show (Option.isNone (some (⟨lb, 0, none⟩ : Addr))) = false from rfl)]; decide)) (fun hc => ?_)
  refine CW.skip ?_
  refine AQ.next ?_
  refine CW.seq ?_
  -- region 7
  refine CW.region ?_
  refine RW.op1 rfl (runs_assign rfl) ?_
  refine RW.done ?_
  refine AQ.next ?_
  refine CW.seq ?_
  refine CW.seq ?_
  -- region 8
  refine CW.region ?_
  refine RW.op1 rfl (runs_assign rfl) ?_
  refine RW.done ?_
  refine AQ.next ?_
  refine CW.block ?_
  -- loop 1
  have htl3 := tl0 hu3 hli3
  refine CW.loop ((Imm × Own × DS × Nat × LG × List (List UInt8) × Value × List Value) × Nat) (fun z w => (I.le z.1.1 ∧ St w0 w z.1.1 ((z.1.2.2.2.1, .cells (logV (.pointer (some a1)) z.1.2.2.2.2.1).toArray 69) :: (z.1.2.1 ++ L)) ∧ DiskO (.pointer (some a1)) z.1.2.2.1 z.1.2.1 ∧ TL z.1.2.2.1 z.1.2.2.2.2.1 z.1.2.2.2.2.2.1 (z.2) ∧ RdR z.1.1 z.1.2.2.2.2.2.2.1 z.1.2.2.2.2.2.2.2 z.1.2.2.2.2.2.1 ∧ RdI z.1.1 vz zs ∧ RdI z.1.1 vk ks) ∧ z.2 ≤ 12) (fun z => [(0, vz), (1, .int .i64 cut), (2, vk), (7, .pointer (some a1)), (8, .pointer (some ⟨z.1.2.2.2.1, 0, none⟩)), (11, z.1.2.2.2.2.2.2.1), (12, .int .i64 (z.2 : Nat))]) (fun z => 100 - z.2) ⟨((_, Ld3, S3, lb, ⟨slot1.up, 2, 1, 0⟩, [], _, []), 0), ⟨⟨hle, hst, hd3, htl3, rows0, hz0, hk0⟩, Nat.zero_le _⟩, ⟨rfl, rfl, rfl, rfl, rfl, rfl, rfl, trivial⟩⟩ ?_
  clear hle hst hd hd2 hd3 htl3 hz0 hk0
  rintro ⟨⟨IK, Ld, S, lb, G, bss, vh, vs⟩, k⟩ w ⟨⟨hle, hst, hd, htl, hrh, hz0, hk0⟩, hk⟩
  dsimp only at hle hst hd htl hrh hz0 hk0 ⊢
  refine CW.seq ?_
  refine CW.seq ?_
  -- region 9
  refine CW.cut Unit (fun _ w => St w0 w IK ((lb, .cells (logV (.pointer (some a1)) G).toArray 69) :: (Ld ++ L))) (fun _ => [(0, vz), (1, .int .i64 cut), (2, vk), (7, .pointer (some a1)), (8, .pointer (some ⟨lb, 0, none⟩)), (11, vh), (12, .int .i64 (k : Nat)), (45, .bool (decide ((k : Int) < zs.length ∧ (k : Int) < 12)))]) ?_ ?_
  · -- region 9
    refine CW.region ?_
    refine RW.op1 rfl (runs_move rfl) ?_
    refine RW.op1 rfl (runs_move rfl) ?_
    refine RW.op1 rfl (RdL.len Try.underlying22 rfl hz0) ?_
    refine RW.op1 rfl (runs_lss rfl rfl) ?_
    refine RW.op1 rfl (runs_move rfl) ?_
    refine RW.split (t := 42) rfl (fun hb42 => ?_) (fun hb42 => ?_)
    · have hb42p := hb42
      try simp only [decide_eq_true_eq, decide_eq_false_iff_not] at hb42p
      refine RW.on_guard rfl rfl rfl rfl hb42 ?_
      refine RW.op1 rfl (runs_move rfl) ?_
      refine RW.on_guard rfl rfl rfl rfl hb42 ?_
      refine RW.op1 rfl (runs_lss rfl rfl) ?_
      refine RW.op1 rfl (runs_pick_true rfl hb42 rfl) ?_
      refine RW.done ?_
      exact AQ.meet () hst ⟨rfl, rfl, rfl, rfl, rfl, rfl, rfl, boolN (by simp only [decide_eq_true_eq, true_iff, Bool.false_eq_true, false_iff]; omega), trivial⟩
    · have hb42p := hb42
      try simp only [decide_eq_true_eq, decide_eq_false_iff_not] at hb42p
      refine RW.off_guard rfl rfl rfl rfl hb42 ?_
      refine RW.off_guard rfl rfl rfl rfl hb42 ?_
      refine RW.op1 rfl (runs_pick_false rfl hb42 rfl) ?_
      refine RW.done ?_
      exact AQ.meet () hst ⟨rfl, rfl, rfl, rfl, rfl, rfl, rfl, boolN (by simp only [decide_eq_true_eq, true_iff, Bool.false_eq_true, false_iff]; omega), trivial⟩
  · rintro _ w hstn
    clear hst
    have hst := hstn
    clear hstn
    refine AQ.next ?_
    refine CW.cond rfl (fun hc45 => ?_) (fun hc45 => ?_)
    · have hcb45 := hc45
      try simp only [decide_eq_true_eq, decide_eq_false_iff_not] at hc45
      obtain ⟨hk1, hk2⟩ := hc45
      have ho0 : i64ok (iat zs (k : Int)) := iat_okE hzs (by omega) (by omega)
      have hfit := htl.td.fit (by omega)
      refine CW.skip ?_
      refine AQ.next ?_
      refine CW.seq ?_
      refine CW.block ?_
      refine CW.seq ?_
      -- region 11
      refine CW.drawSt hst (.q 0 (.q 1 (.q 2 (.q 3 (.q 4 (.q 5 (.q 6 (.q 7 (.l 8 (.l 9 (.q 10 .nil))))))))))) follows (by kernel_rfl) (fun w hst => ?_)
      refine DRW.q rfl rfl (fun w' hF => runs_move rfl) ?_
      refine DRW.q rfl rfl (fun w' hF => runs_move rfl) ?_
      refine DRW.q rfl rfl (fun w' hF => RdL.indexAddr Try.underlying22 ti3 (by decide) rfl rfl hz0 (by omega)) ?_
      first
        | refine DRW.q rfl rfl (FSt.load1 sc3 rfl (RdI.at (by assumption) (by omega) (by omega))) ?_
        | refine DRW.q rfl rfl (FSt.load1_own sc3 rfl (k := 0) rfl rfl) ?_
        | refine DRW.q rfl rfl (FSt.load1_own sc3 rfl (k := 1) rfl rfl) ?_
        | refine DRW.q rfl rfl (FSt.load1_own sc3 rfl (k := 2) rfl rfl) ?_
      refine DRW.q rfl rfl (fun w' hF => runs_move rfl) ?_
      refine DRW.q rfl rfl (fun w' hF => runs_move rfl) ?_
      refine DRW.q rfl rfl (fun w' hF => RdL.indexAddr Try.underlying22 ti3 (by decide) rfl rfl hz0 (by omega)) ?_
      first
        | refine DRW.q rfl rfl (FSt.load1 sc3 rfl (RdI.at (by assumption) (by omega) (by omega))) ?_
        | refine DRW.q rfl rfl (FSt.load1_own sc3 rfl (k := 0) rfl rfl) ?_
        | refine DRW.q rfl rfl (FSt.load1_own sc3 rfl (k := 1) rfl rfl) ?_
        | refine DRW.q rfl rfl (FSt.load1_own sc3 rfl (k := 2) rfl rfl) ?_
      refine DRW.call rfl rfl call8 rfl rfl (within_spec hst (v := iat zs (k : Int)) (n := 60) ho0 (by unfold i64ok; decide)) ?_
      rintro e w ⟨rfl, hstn⟩
      clear hst
      have hst := hstn
      clear hstn
      have hw7 := within_range (iat zs (k : Int)) 60
      generalize within (iat zs (k : Int)) 60 = x7 at *
      refine ⟨_, rfl, FSt.of hst (Imm.le.refl _) (by first | exact (List.sublist_cons_self _ _).trans (List.sublist_append_right _ _) | exact List.Sublist.refl _ | exact List.sublist_cons_self _ _ | exact List.sublist_append_right _ _ | exact (List.sublist_cons_self _ _).trans (List.sublist_cons_self _ _) | exact (List.sublist_append_right _ _).trans (List.sublist_cons_self _ _) | simp), ?_⟩
      refine DRW.call rfl rfl call13 rfl rfl (bytes_spec hst (iat zs (k : Int)) x7 ho0 (by omega)) ?_
      rintro e w ⟨I5, vb, hI5, rfl, hstn, hB⟩
      clear hst
      have hst := hstn
      clear hstn
      have hbl : (bytesOf (iat zs (k : Int)) x7).length ≤ 60 := by rw [bytesOf_length]; omega
      generalize bytesOf (iat zs (k : Int)) x7 = bb at hB hbl
      have hbn := need60 hbl
      replace hz0 := hz0.mono hI5
      replace hk0 := hk0.mono hI5
      replace hrh := hrh.mono hI5
      replace hle := hle.trans hI5
      refine ⟨_, rfl, FSt.of hst hI5 (by first | exact (List.sublist_cons_self _ _).trans (List.sublist_append_right _ _) | exact List.Sublist.refl _ | exact List.sublist_cons_self _ _ | exact List.sublist_append_right _ _ | exact (List.sublist_cons_self _ _).trans (List.sublist_cons_self _ _) | exact (List.sublist_append_right _ _).trans (List.sublist_cons_self _ _) | simp), ?_⟩
      refine DRW.q rfl rfl (fun w' hF => runs_assign rfl) ?_
      refine DRW.done ?_
      refine AQ.next ?_
      refine CW.seq ?_
      -- region 12
      refine CW.region ?_
      refine RW.op1 rfl (runs_move rfl) ?_
      refine RW.op1 rfl (runs_move rfl) ?_
      refine RW.op1 rfl (RdL.indexAddr Try.underlying22 ti3 (by decide) rfl rfl hz0 (by omega)) ?_
      first
        | refine RW.op1 rfl (runs_load1 sc3 rfl (hst.cell_imm (RdI.at (by assumption) (by omega) (by omega)))) ?_
        | refine RW.op1 rfl (runs_load1 sc3 rfl (hst.cell_own (k := 0) rfl rfl)) ?_
        | refine RW.op1 rfl (runs_load1 sc3 rfl (hst.cell_own (k := 1) rfl rfl)) ?_
        | refine RW.op1 rfl (runs_load1 sc3 rfl (hst.cell_own (k := 2) rfl rfl)) ?_
      refine RW.call rfl call8 rfl rfl (within_spec hst (v := iat zs (k : Int)) (n := 4) ho0 (by unfold i64ok; decide)) ?_
      rintro e w ⟨rfl, hstn⟩
      clear hst
      have hst := hstn
      clear hstn
      generalize within (iat zs (k : Int)) 4 = x4 at *
      refine ⟨_, rfl, ?_⟩
      refine RW.done ?_
      refine AQ.next ?_
      refine CW.block ?_
      refine CW.seq ?_
      -- region 16
      refine CW.region ?_
      refine RW.op1 rfl (runs_eqI rfl rfl) ?_
      refine RW.op1 rfl (runs_assign rfl) ?_
      refine RW.done ?_
      refine AQ.next ?_
      refine CW.cut (Imm × Own × DS × Nat × LG × List (List UInt8) × Value × List Value) (fun y w => I.le y.1 ∧ St w0 w y.1 ((y.2.2.2.1, .cells (logV (.pointer (some a1)) y.2.2.2.2.1).toArray 69) :: (y.2.1 ++ L)) ∧ DiskO (.pointer (some a1)) y.2.2.1 y.2.1 ∧ TL y.2.2.1 y.2.2.2.2.1 y.2.2.2.2.2.1 (k + 1) ∧ RdR y.1 y.2.2.2.2.2.2.1 y.2.2.2.2.2.2.2 y.2.2.2.2.2.1 ∧ RdI y.1 vz zs ∧ RdI y.1 vk ks) (fun y => [(0, vz), (1, .int .i64 cut), (2, vk), (7, .pointer (some a1)), (8, .pointer (some ⟨y.2.2.2.1, 0, none⟩)), (11, y.2.2.2.2.2.2.1), (12, .int .i64 (k : Nat))]) ?_ ?_
      · refine CW.cond rfl (fun hc76 => ?_) (fun hc76 => ?_)
        · have hcb76 := hc76
          try simp only [decide_eq_true_eq, decide_eq_false_iff_not] at hc76
          refine CW.seq ?_
          refine CW.seq ?_
          -- region 17
          refine CW.region ?_
          refine RW.op1 rfl (runs_move rfl) ?_
          refine RW.op1 rfl (runs_move rfl) ?_
          refine RW.op1 rfl (runs_move rfl) ?_
          refine RW.opE rfl (runs_lit1R (xs := [vb, vb]) Try.underlying29 ti33 (by decide) rfl rfl rfl (by have := hB.one; simp [this]) hst) ?_
          rintro u7 w ⟨I7, hI7, hstn, h7⟩
          clear hst
          have hst := hstn
          clear hstn
          replace hz0 := hz0.mono hI7
          replace hk0 := hk0.mono hI7
          replace hrh := hrh.mono hI7
          replace hB := hB.mono hI7
          replace hle := hle.trans hI7
          have hr2 : RdR _ u7 [vb, vb] [bb, bb] := RdR.of_all h7 rfl ⟨hB, hB, trivial⟩
          refine RW.call rfl call22 rfl rfl (turn_up hd hst htl.up htl.li hr2 (by show 2 ≤ 1000; decide) (by simp; omega) (by show G.nx + ((2 : Nat) : Int) ≤ _; omega) (by omega)) ?_
          rintro e w ⟨I8, LdE, SE, GE, eE, hI8, rfl, hstn, hdE, huE, htu⟩
          clear hst
          have hst := hstn
          clear hstn
          obtain ⟨rfl, _, hliE, hgE⟩ := htu.resolve_left (fun h => by have := h.2.2.2; simp [needS] at this; omega)
          have htlE : TL SE GE [bb, bb] (k + 1) := ⟨huE, hliE, TL.turn htl.td (by simp; omega) (by show 2 ≤ 3; decide) hliE hgE⟩
          replace hz0 := hz0.mono hI8
          replace hk0 := hk0.mono hI8
          replace hrh := hrh.mono hI8
          replace hB := hB.mono hI8
          replace h7 := h7.mono hI8
          replace hr2 := hr2.mono hI8
          replace hle := hle.trans hI8
          refine ⟨_, rfl, ?_⟩
          refine RW.op1 rfl (runs_neI rfl rfl) ?_
          refine RW.done ?_
          refine AQ.next ?_
          refine CW.cond rfl (fun hc => absurd hc (by decide)) (fun hc => ?_)
          refine CW.skip ?_
          refine AQ.next ?_
          -- region 19
          refine CW.region ?_
          refine RW.op1 rfl (runs_move rfl) ?_
          refine RW.op1 rfl (runs_move rfl) ?_
          refine RW.opE rfl (runs_lit1R (xs := [vb, vb]) Try.underlying29 ti33 (by decide) rfl rfl rfl (by have := hB.one; simp [this]) hst) ?_
          rintro u9 w ⟨I9, hI9, hstn, h9⟩
          clear hst
          have hst := hstn
          clear hstn
          replace hz0 := hz0.mono hI9
          replace hk0 := hk0.mono hI9
          replace hrh := hrh.mono hI9
          replace hB := hB.mono hI9
          replace h7 := h7.mono hI9
          replace hr2 := hr2.mono hI9
          replace hle := hle.trans hI9
          have hrE : RdR _ u9 [vb, vb] [bb, bb] := RdR.of_all h9 rfl ⟨hB, hB, trivial⟩
          refine RW.op1 rfl (runs_assign rfl) ?_
          refine RW.done ?_
          exact AQ.meet (_, _, _, _, _, _, _, _) ⟨hle, hst, hdE, htlE, hrE, hz0, hk0⟩ ⟨rfl, rfl, rfl, rfl, rfl, rfl, rfl, trivial⟩
        · have hcb76 := hc76
          try simp only [decide_eq_true_eq, decide_eq_false_iff_not] at hc76
          refine CW.seq ?_
          -- region 20
          refine CW.region ?_
          refine RW.op1 rfl (runs_eqI rfl rfl) ?_
          refine RW.op1 rfl (runs_assign rfl) ?_
          refine RW.done ?_
          refine AQ.next ?_
          refine CW.cond rfl (fun hc87 => ?_) (fun hc87 => ?_)
          · have hcb87 := hc87
            try simp only [decide_eq_true_eq, decide_eq_false_iff_not] at hc87
            refine CW.seq ?_
            refine CW.seq ?_
            -- region 21
            refine CW.region ?_
            refine RW.op1 rfl (runs_move rfl) ?_
            refine RW.call rfl call22 rfl rfl (turn_up hd hst htl.up htl.li rows0 (by decide) (by simp) (by show G.nx + ((0 : Nat) : Int) ≤ _; omega) (by omega)) ?_
            rintro e w ⟨I10, LdE, SE, GE, eE, hI10, rfl, hstn, hdE, huE, htu⟩
            clear hst
            have hst := hstn
            clear hstn
            obtain ⟨rfl, _, hliE, hgE⟩ := htu.resolve_left (fun h => by have := h.2.2.2; simp [needS] at this)
            have htlE : TL SE GE [] (k + 1) := ⟨huE, hliE, TL.turn htl.td (by simp) (by decide) hliE hgE⟩
            have hrE : RdR I10 (.slice none 0 0) [] [] := rows0
            replace hz0 := hz0.mono hI10
            replace hk0 := hk0.mono hI10
            replace hrh := hrh.mono hI10
            replace hB := hB.mono hI10
            replace hle := hle.trans hI10
            refine ⟨_, rfl, ?_⟩
            refine RW.op1 rfl (runs_neI rfl rfl) ?_
            refine RW.done ?_
            refine AQ.next ?_
            refine CW.cond rfl (fun hc => absurd hc (by decide)) (fun hc => ?_)
            refine CW.skip ?_
            refine AQ.next ?_
            -- region 23
            refine CW.region ?_
            refine RW.op1 rfl (runs_assign rfl) ?_
            refine RW.done ?_
            exact AQ.meet (_, _, _, _, _, _, _, _) ⟨hle, hst, hdE, htlE, hrE, hz0, hk0⟩ ⟨rfl, rfl, rfl, rfl, rfl, rfl, rfl, trivial⟩
          · have hcb87 := hc87
            try simp only [decide_eq_true_eq, decide_eq_false_iff_not] at hc87
            refine CW.seq ?_
            -- region 24
            refine CW.region ?_
            refine RW.op1 rfl (runs_eqI rfl rfl) ?_
            refine RW.op1 rfl (runs_assign rfl) ?_
            refine RW.done ?_
            refine AQ.next ?_
            refine CW.cond rfl (fun hc92 => ?_) (fun hc92 => ?_)
            · have hcb92 := hc92
              try simp only [decide_eq_true_eq, decide_eq_false_iff_not] at hc92
              refine CW.seq ?_
              -- region 25
              refine CW.region ?_
              refine RW.op1 rfl (runs_move rfl) ?_
              refine RW.op1 rfl (runs_move rfl) ?_
              refine RW.call rfl call8 rfl rfl (within_spec hst (v := cut) (n := 9) hcut (by unfold i64ok; decide)) ?_
              rintro e w ⟨rfl, hstn⟩
              clear hst
              have hst := hstn
              clear hstn
              have hw9 := within_range cut 9
              generalize within cut 9 = x9 at *
              refine ⟨_, rfl, ?_⟩
              refine RW.call rfl call17 rfl rfl (limit_spec hd (hst.perm List.perm_middle.symm) x9 (by unfold i64ok; omega)) ?_
              rintro e w ⟨rfl, LdT, hstn, hdT⟩
              clear hst
              have hst := hstn
              clear hstn
              replace hst := hst.perm List.perm_middle
              have hliT := htl.li.limit (if x9 > -1 then x9 else -1)
              refine ⟨_, rfl, ?_⟩
              refine RW.done ?_
              refine AQ.next ?_
              refine CW.seq ?_
              -- region 26
              refine CW.region ?_
              refine RW.op1 rfl (runs_move rfl) ?_
              refine RW.op1 rfl (runs_move rfl) ?_
              refine RW.op1 rfl (runs_move rfl) ?_
              refine RW.op1 rfl (runs_move rfl) ?_
              refine RW.opE rfl (runs_lit1R (xs := [vb, vb, vb]) Try.underlying29 ti33 (by decide) rfl rfl rfl (by have := hB.one; simp [this]) hst) ?_
              rintro u13 w ⟨I13, hI13, hstn, h13⟩
              clear hst
              have hst := hstn
              clear hstn
              replace hz0 := hz0.mono hI13
              replace hk0 := hk0.mono hI13
              replace hrh := hrh.mono hI13
              replace hB := hB.mono hI13
              replace hle := hle.trans hI13
              have hr3b : RdR _ u13 [vb, vb, vb] [bb, bb, bb] := RdR.of_all h13 rfl ⟨hB, hB, hB, trivial⟩
              refine RW.call rfl call22 rfl rfl (turn_any hdT hst hliT hr3b (by show 3 ≤ 1000; decide) (by simp; omega) (by show G.nx + ((3 : Nat) : Int) ≤ _; omega) (by omega)) ?_
              rintro e w ⟨I14, LdU, SU, GU, eU, hI14, rfl, hstn, hdU, _, htu⟩
              clear hst
              have hst := hstn
              clear hstn
              replace htu := htu.resolve_left (fun h => by have := h.2.2.2; simp [needS] at this; omega)
              replace hz0 := hz0.mono hI14
              replace hk0 := hk0.mono hI14
              replace hrh := hrh.mono hI14
              replace hB := hB.mono hI14
              replace h13 := h13.mono hI14
              replace hr3b := hr3b.mono hI14
              replace hle := hle.trans hI14
              refine ⟨_, rfl, ?_⟩
              refine RW.op1 rfl (runs_assign rfl) ?_
              refine RW.done ?_
              refine AQ.next ?_
              refine CW.seq ?_
              refine CW.seq ?_
              -- region 27
              refine CW.region ?_
              refine RW.op1 rfl (runs_move rfl) ?_
              refine RW.op1 rfl (runs_eqI rfl rfl) ?_
              refine RW.done ?_
              refine AQ.next ?_
              refine CW.cut (Imm × List (List UInt8) × Value × List Value) (fun y w => I.le y.1 ∧ St w0 w y.1 ((lb, .cells (logV (.pointer (some a1)) GU).toArray 69) :: (LdU ++ L)) ∧ RdR y.1 y.2.2.1 y.2.2.2 y.2.1 ∧ RdI y.1 vz zs ∧ RdI y.1 vk ks ∧ ∀ ks, ∃ s a nx, TD (crashR SU ks).secs s y.2.1 a nx (k + 1) ∧ s.n ≤ 3 + 2 * (k : Int) ∧ s.e ≤ 2 + (k : Int)) (fun y => [(0, vz), (1, .int .i64 cut), (2, vk), (7, .pointer (some a1)), (11, y.2.2.1), (12, .int .i64 (k : Nat)), (13, vb)]) ?_ ?_
              · refine CW.cond rfl (fun hc105 => ?_) (fun hc105 => ?_)
                · have hcb105 := hc105
                  try simp only [decide_eq_true_eq, decide_eq_false_iff_not] at hc105
                  -- region 28
                  refine CW.region ?_
                  refine RW.op1 rfl (runs_move rfl) ?_
                  refine RW.op1 rfl (runs_move rfl) ?_
                  refine RW.op1 rfl (runs_move rfl) ?_
                  refine RW.opE rfl (runs_lit1R (xs := [vb, vb, vb]) Try.underlying29 ti33 (by decide) rfl rfl rfl (by have := hB.one; simp [this]) hst) ?_
                  rintro u15 w ⟨I15, hI15, hstn, h15⟩
                  clear hst
                  have hst := hstn
                  clear hstn
                  replace hz0 := hz0.mono hI15
                  replace hk0 := hk0.mono hI15
                  replace hrh := hrh.mono hI15
                  replace hB := hB.mono hI15
                  replace h13 := h13.mono hI15
                  replace hr3b := hr3b.mono hI15
                  replace hle := hle.trans hI15
                  have hrU : RdR _ u15 [vb, vb, vb] [bb, bb, bb] := RdR.of_all h15 rfl ⟨hB, hB, hB, trivial⟩
                  refine RW.op1 rfl (runs_assign rfl) ?_
                  refine RW.done ?_
                  first
                    | (obtain ⟨rfl, _, hliU, hgU, _⟩ := htu.resolve_right (fun h => by have := h.1; omega)
                       exact AQ.meet (_, _, _, _) ⟨hle, hst, hrU, hz0, hk0, fun ks => ⟨GU.s, GU.at_, GU.nx, ⟨hliU.crash ks, (TL.turn (S := S) (S' := SU) htl.td (by simp; omega) (by show 3 ≤ 3; decide) hliU hgU).n, (TL.turn (S := S) (S' := SU) htl.td (by simp; omega) (by show 3 ≤ 3; decide) hliU hgU).e, (TL.turn (S := S) (S' := SU) htl.td (by simp; omega) (by show 3 ≤ 3; decide) hliU hgU).nx, (TL.turn (S := S) (S' := SU) htl.td (by simp; omega) (by show 3 ≤ 3; decide) hliU hgU).at_, by show 3 ≤ 3 + (k + 1); omega, by simp; omega⟩, by rw [hgU]; have := htl.td.n; show G.s.n + 1 ≤ _; omega, by rw [hgU]; exact htl.td.e⟩⟩ ⟨rfl, rfl, rfl, rfl, rfl, rfl, rfl, trivial⟩)
                    | (obtain ⟨rfl, _, hcr⟩ := htu.resolve_left (fun h => by have := h.1; omega)
                       exact AQ.meet (_, _, _, _) ⟨hle, hst, hrh, hz0, hk0, fun ks => ⟨G.s, G.at_, G.nx, TD.mono ⟨hcr ks, htl.td.n, htl.td.e, htl.td.nx, htl.td.at_, htl.td.len, htl.td.sz⟩, by have := htl.td.n; omega, htl.td.e⟩⟩ ⟨rfl, rfl, rfl, rfl, rfl, rfl, rfl, trivial⟩)
                · have hcb105 := hc105
                  try simp only [decide_eq_true_eq, decide_eq_false_iff_not] at hc105
                  refine CW.skip ?_
                  first
                    | (obtain ⟨rfl, _, hliU, hgU, _⟩ := htu.resolve_right (fun h => by have := h.1; omega)
                       exact AQ.meet (_, _, _, _) ⟨hle, hst, hrU, hz0, hk0, fun ks => ⟨GU.s, GU.at_, GU.nx, ⟨hliU.crash ks, (TL.turn (S := S) (S' := SU) htl.td (by simp; omega) (by show 3 ≤ 3; decide) hliU hgU).n, (TL.turn (S := S) (S' := SU) htl.td (by simp; omega) (by show 3 ≤ 3; decide) hliU hgU).e, (TL.turn (S := S) (S' := SU) htl.td (by simp; omega) (by show 3 ≤ 3; decide) hliU hgU).nx, (TL.turn (S := S) (S' := SU) htl.td (by simp; omega) (by show 3 ≤ 3; decide) hliU hgU).at_, by show 3 ≤ 3 + (k + 1); omega, by simp; omega⟩, by rw [hgU]; have := htl.td.n; show G.s.n + 1 ≤ _; omega, by rw [hgU]; exact htl.td.e⟩⟩ ⟨rfl, rfl, rfl, rfl, rfl, rfl, rfl, trivial⟩)
                    | (obtain ⟨rfl, _, hcr⟩ := htu.resolve_left (fun h => by have := h.1; omega)
                       exact AQ.meet (_, _, _, _) ⟨hle, hst, hrh, hz0, hk0, fun ks => ⟨G.s, G.at_, G.nx, TD.mono ⟨hcr ks, htl.td.n, htl.td.e, htl.td.nx, htl.td.at_, htl.td.len, htl.td.sz⟩, by have := htl.td.n; omega, htl.td.e⟩⟩ ⟨rfl, rfl, rfl, rfl, rfl, rfl, rfl, trivial⟩)
              · clear hle hst hrh hz0 hk0
                rintro ⟨IU, bssU, vU, vsU⟩ w ⟨hle, hst, hrU, hz0, hk0, hcr⟩
                dsimp only at hle hst hrU hz0 hk0 hcr ⊢
                refine AQ.next ?_
                refine CW.seq ?_
                -- region 29
                refine CW.region ?_
                refine RW.op1 rfl (runs_move rfl) ?_
                refine RW.op1 rfl (runs_move rfl) ?_
                refine RW.op1 rfl (runs_move rfl) ?_
                refine RW.call rfl call27 rfl rfl (keeps_spec hst hk0 hks hkl (k : Int) (by unfold i64ok; omega)) ?_
                rintro e w ⟨I16, vK, kk, hI16, rfl, hstn, hkk⟩
                clear hst
                have hst := hstn
                clear hstn
                replace hrU := hrU.mono hI16
                replace hz0 := hz0.mono hI16
                replace hk0 := hk0.mono hI16
                replace hle := hle.trans hI16
                refine ⟨_, rfl, ?_⟩
                refine RW.call rfl call26 rfl rfl (crash_spec hdU (hst.perm List.perm_middle.symm) hkk) ?_
                rintro e w ⟨LdC, rfl, hstn, hdC⟩
                clear hst
                have hst := hstn
                clear hstn
                obtain ⟨sC, aC, nC, htd, hn1, hn2⟩ := hcr kk
                refine ⟨_, rfl, ?_⟩
                refine RW.done ?_
                refine AQ.next ?_
                refine CW.seq ?_
                -- region 30
                refine CW.region ?_
                refine RW.op1 rfl (runs_assign rfl) ?_
                refine RW.done ?_
                refine AQ.next ?_
                refine CW.seq ?_
                refine CW.seq ?_
                -- region 31
                refine CW.region ?_
                refine RW.op1 rfl (runs_move rfl) ?_
                refine RW.call rfl call11 rfl rfl (open_up hdC hst (crash_up _ _) rfl htd.di (by omega)) ?_
                rintro e w ⟨I18, LdE, lbE, yE, vsE, SE, hI18, rfl, hstn, hdE, hrE, hliE, huE⟩
                clear hst
                have hst := hstn
                clear hstn
                replace hst := hst.sub (sub_b _ LdE [_] L)
                have htlE := htd.open (by omega) (by omega) hliE huE
                replace hrU := hrU.mono hI18
                replace hz0 := hz0.mono hI18
                replace hk0 := hk0.mono hI18
                replace hkk := hkk.mono hI18
                replace hle := hle.trans hI18
                refine ⟨_, rfl, ?_⟩
                refine RW.op1 rfl (runs_move rfl) ?_
                refine RW.op1 rfl (runs_extract rfl rfl) ?_
                refine RW.op1 rfl (runs_extract rfl rfl) ?_
                refine RW.op1 rfl (runs_extract rfl rfl) ?_
                refine RW.op1 rfl (runs_assign rfl) ?_
                refine RW.op1 rfl (runs_assign rfl) ?_
                refine RW.op1 rfl (runs_assign rfl) ?_
                refine RW.done ?_
                refine AQ.next ?_
                refine CW.seq ?_
                -- region 32
                refine CW.region ?_
                refine RW.op1 rfl (runs_move rfl) ?_
                refine RW.op1 rfl (runs_neI rfl rfl) ?_
                refine RW.op1 rfl (runs_move rfl) ?_
                have hk123 := (show decide ((0 : Int) ≠ 0) = false by decide)
                refine RW.on_guard rfl rfl rfl rfl hk123 ?_
                refine RW.op1 rfl (runs_move rfl) ?_
                refine RW.on_guard rfl rfl rfl rfl hk123 ?_
                refine RW.op1 rfl (runs_eq_nilptr Try.underlying28 rfl) ?_
                refine RW.op1 rfl (runs_pick_false rfl hk123 rfl) ?_
                refine RW.op1 rfl (runs_move rfl) ?_
                have hk127 := (show (Option.isNone (some (⟨lbE, 0, none⟩ : Addr))) = false from rfl)
                refine RW.on_guard rfl rfl rfl rfl hk127 ?_
                refine RW.op1 rfl (runs_move rfl) ?_
                refine RW.on_guard rfl rfl rfl rfl hk127 ?_
                refine RW.op1 rfl (runs_move rfl) ?_
                refine RW.on_guard rfl rfl rfl rfl hk127 ?_
                refine RW.call rfl call25 rfl rfl (same4_spec hst hrE hrU (fun x hx => by have := htd.sz x hx; omega) (by have := htd.len; omega)) ?_
                rintro e w ⟨rfl, hstn⟩
                clear hst
                have hst := hstn
                clear hstn
                refine ⟨_, rfl, ?_⟩
                refine RW.on_guard rfl rfl rfl rfl hk127 ?_
                refine RW.op1 rfl (runs_not rfl) ?_
                refine RW.on_guard rfl rfl rfl rfl hk127 ?_
                refine RW.op1 rfl (runs_move rfl) ?_
                have hk132 := (show (!decide (bssU = bssU)) = false by simp)
                refine RW.off_guard rfl rfl rfl rfl hk132 ?_
                refine RW.off_guard rfl rfl rfl rfl hk132 ?_
                refine RW.off_guard rfl rfl rfl rfl hk132 ?_
                refine RW.off_guard rfl rfl rfl rfl hk132 ?_
                refine RW.off_guard rfl rfl rfl rfl hk132 ?_
                refine RW.off_guard rfl rfl rfl rfl hk132 ?_
                refine RW.off_guard rfl rfl rfl rfl hk132 ?_
                refine RW.on_guard rfl rfl rfl rfl hk127 ?_
                refine RW.op1 rfl (runs_pick_false rfl hk132 rfl) ?_
                refine RW.op1 rfl (runs_pick_false rfl hk127 rfl) ?_
                refine RW.done ?_
                refine AQ.next ?_
                refine CW.cond rfl (fun hc => absurd hc (by decide)) (fun hc => ?_)
                refine CW.skip ?_
                refine AQ.next ?_
                -- region 34
                refine CW.region ?_
                refine RW.op1 rfl (runs_move rfl) ?_
                refine RW.op1 rfl (runs_assign rfl) ?_
                refine RW.done ?_
                exact AQ.meet (_, _, _, _, _, _, _, _) ⟨hle, hst, hdE, htlE, hrE, hz0, hk0⟩ ⟨rfl, rfl, rfl, rfl, rfl, rfl, rfl, trivial⟩
            · have hcb92 := hc92
              try simp only [decide_eq_true_eq, decide_eq_false_iff_not] at hc92
              refine CW.seq ?_
              refine CW.seq ?_
              -- region 13
              refine CW.region ?_
              refine RW.op1 rfl (runs_move rfl) ?_
              refine RW.op1 rfl (runs_move rfl) ?_
              refine RW.call rfl call18 rfl rfl (append_up hd hst htl.up htl.li hB (by omega) (by omega)) ?_
              rintro e w ⟨I20, LdE, SE, GE, eE, hI20, rfl, hstn, hdE, huE, hap⟩
              clear hst
              have hst := hstn
              clear hstn
              obtain ⟨rfl, _, hliE, hgE⟩ := hap.resolve_left (fun h => by have := h.2.2.2; unfold roomR at this; omega)
              have htlE : TL SE GE (bss ++ [bb]) (k + 1) := ⟨huE, hliE, TL.append htl.td hbl hliE hgE⟩
              replace hz0 := hz0.mono hI20
              replace hk0 := hk0.mono hI20
              replace hrh := hrh.mono hI20
              replace hB := hB.mono hI20
              replace hle := hle.trans hI20
              refine ⟨_, rfl, ?_⟩
              refine RW.op1 rfl (runs_neI rfl rfl) ?_
              refine RW.done ?_
              refine AQ.next ?_
              refine CW.cond rfl (fun hc => absurd hc (by decide)) (fun hc => ?_)
              refine CW.skip ?_
              refine AQ.next ?_
              -- region 15
              refine CW.region ?_
              refine RW.op1 rfl (runs_move rfl) ?_
              refine RW.op1 rfl (runs_move rfl) ?_
              refine RW.op1 rfl (RdL.len Try.underlying29 rfl hrh.1) ?_
              refine RW.op1 rfl (runs_move rfl) ?_
              refine RW.op1 rfl (RdL.len Try.underlying29 rfl hrh.1) ?_
              refine RW.op1 rfl (RdR.full Try.underlying29 ti33 rfl rfl rfl hrh) ?_
              obtain ⟨A72, hA72, hf72⟩ := hrh.fullR
              rw [hA72]
              refine RW.op1 rfl (runs_move rfl) ?_
              refine RW.opE rfl (runs_lit1R (xs := [vb]) Try.underlying29 ti33 (by decide) rfl rfl rfl (by have := hB.one; simp [this]) hst) ?_
              rintro u21 w ⟨I21, hI21, hstn, h21⟩
              clear hst
              have hst := hstn
              clear hstn
              replace hz0 := hz0.mono hI21
              replace hk0 := hk0.mono hI21
              replace hrh := hrh.mono hI21
              replace hB := hB.mono hI21
              replace hf72 := hf72.mono hI21
              replace hle := hle.trans hI21
              refine RW.opE rfl (runs_appendRowF Try.underlying29 ti33 rfl rfl rfl hst hf72 (by assumption) hB (by have := hrh.2.1; omega) (by unfold maxLen; omega)) ?_
              rintro u22 w ⟨Lv22, hstn, hg22⟩
              clear hst
              have hst := hstn
              clear hstn
              obtain ⟨I75, vs75, hI75, hst75, hrE⟩ := GrowR.freeze hg22 hst
              clear hst
              have hst := hst75
              replace hle := hle.trans hI75
              replace hz0 := RdL.mono hI75 hz0
              replace hk0 := RdL.mono hI75 hk0
              refine RW.op1 rfl (runs_assign rfl) ?_
              refine RW.done ?_
              exact AQ.meet (_, _, _, _, _, _, _, _) ⟨hle, hst, hdE, htlE, hrE, hz0, hk0⟩ ⟨rfl, rfl, rfl, rfl, rfl, rfl, rfl, trivial⟩
      · clear hle hst hd htl hrh hz0 hk0
        rintro ⟨IK, Ld, S, lb, G, bss, vh, vs⟩ w ⟨hle, hst, hd, htl, hrh, hz0, hk0⟩
        dsimp only at hle hst hd htl hrh hz0 hk0 ⊢
        refine AQ.block_normal ?_
        refine AQ.block_normal ?_
        refine AQ.next ?_
        -- region 10
        refine CW.region ?_
        refine RW.op1 rfl (runs_move rfl) ?_
        refine RW.op1 rfl (runs_add rfl rfl (by omega)) ?_
        refine RW.op1 rfl (runs_assign rfl) ?_
        refine RW.done ?_
        exact AQ.again (x := ((I, Ld, S, lb, G, bss, vh, vs), k)) ((_, Ld, S, lb, G, bss, vh, vs), k + 1) ⟨⟨hle, hst, hd, htl, hrh, hz0, hk0⟩, by dsimp only; omega⟩ ⟨rfl, rfl, rfl, rfl, rfl, rfl, rfl, trivial⟩ (by dsimp only; omega)
    · have hcb45 := hc45
      try simp only [decide_eq_true_eq, decide_eq_false_iff_not] at hc45
      skip
      refine CW.exit ?_
      refine AQ.past_exit ?_
      refine AQ.past_exit ?_
      refine AQ.block_hit ?_
      refine AQ.next ?_
      refine CW.seq ?_
      -- region 35
      refine CW.region ?_
      refine RW.op1 rfl (runs_move rfl) ?_
      refine RW.call rfl call11 rfl rfl (open_up hd hst.drop1 htl.up htl.li.pn htl.li.di (by have := htl.td.fit (by omega); omega)) ?_
      rintro e w ⟨I23, LdE, lbE, yE, vsE, SE, hI23, rfl, hstn, hdE, hrE, hliE, huE⟩
      clear hst
      have hst := hstn
      clear hstn
      replace hz0 := hz0.mono hI23
      replace hk0 := hk0.mono hI23
      replace hrh := hrh.mono hI23
      replace hle := hle.trans hI23
      refine ⟨_, rfl, ?_⟩
      refine RW.op1 rfl (runs_move rfl) ?_
      refine RW.op1 rfl (runs_extract rfl rfl) ?_
      refine RW.op1 rfl (runs_extract rfl rfl) ?_
      refine RW.op1 rfl (runs_extract rfl rfl) ?_
      refine RW.op1 rfl (runs_assign rfl) ?_
      refine RW.op1 rfl (runs_assign rfl) ?_
      refine RW.op1 rfl (runs_assign rfl) ?_
      refine RW.done ?_
      refine AQ.next ?_
      refine CW.seq ?_
      -- region 36
      refine CW.region ?_
      refine RW.op1 rfl (runs_move rfl) ?_
      refine RW.op1 rfl (runs_eqI rfl rfl) ?_
      refine RW.op1 rfl (runs_move rfl) ?_
      have hk151 := (show decide ((0 : Int) = 0) = true by decide)
      refine RW.on_guard rfl rfl rfl rfl hk151 ?_
      refine RW.op1 rfl (runs_move rfl) ?_
      refine RW.on_guard rfl rfl rfl rfl hk151 ?_
      refine RW.op1 rfl (runs_move rfl) ?_
      refine RW.on_guard rfl rfl rfl rfl hk151 ?_
      refine RW.call rfl call25 rfl rfl (same4_spec hst hrE hrh (fun x hx => by have := htl.td.sz x hx; omega) (by have := htl.td.len; omega)) ?_
      rintro e w ⟨rfl, hstn⟩
      clear hst
      have hst := hstn
      clear hstn
      refine ⟨_, rfl, ?_⟩
      refine RW.op1 rfl (runs_pick_true rfl hk151 rfl) ?_
      refine RW.op1 rfl (runs_move rfl) ?_
      have hk156 := (show decide (bss = bss) = true by simp)
      refine RW.on_guard rfl rfl rfl rfl hk156 ?_
      refine RW.call rfl call19 rfl rfl (wakes04_spec hst) ?_
      rintro e w ⟨rfl, I25, hI25, hstn⟩
      clear hst
      have hst := hstn
      clear hstn
      replace hz0 := hz0.mono hI25
      replace hk0 := hk0.mono hI25
      replace hrh := hrh.mono hI25
      replace hrE := hrE.mono hI25
      replace hle := hle.trans hI25
      refine ⟨_, rfl, ?_⟩
      refine RW.op1 rfl (runs_pick_true rfl hk156 rfl) ?_
      refine RW.op1 rfl (runs_assign rfl) ?_
      refine RW.done ?_
      refine AQ.next ?_
      refine CW.ret ?_
      refine AQ.ret1 rfl rfl ?_
      exact ⟨rfl, _, hle, hst.sub ((List.sublist_append_right _ _).trans (List.sublist_cons_self _ _))⟩
end Go.Proofs.YthocicjjighbnaaX
