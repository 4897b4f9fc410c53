/- A log cut off at any write, again and again: the walk. -/
import Derived.Test.YthocicjjighbnaaT
import Derived.Test.YthocicjjighbnaaG14
namespace Go.Proofs.YthocicjjighbnaaX
set_option linter.unusedVariables false
set_option linter.unusedSimpArgs false
open Go Go.RowKit Go.Proofs

/-- Within bounds. -/
def BD (s : Slot) (nx : Int) (bss : List (List UInt8)) (K : Nat) : Prop := s.n ≤ (K : Int) ∧ s.e ≤ (K : Int) ∧ nx ≤ (K : Int) ∧ bss.length ≤ K ∧ ∀ b ∈ bss, b.length ≤ 120
theorem BD.mono {s : Slot} {nx : Int} {bss : List (List UInt8)} {K K' : Nat} (h : BD s nx bss K) (hK : K ≤ K') : BD s nx bss K' := by
  obtain ⟨h1, h2, h3, h4, h5⟩ := h
  exact ⟨by omega, by omega, by omega, by omega, h5⟩
/-- What became of an append, or a turn. -/
def FP (S : DS) (G : LG) (f : Int) (nb bss : List (List UInt8)) (K : Nat) : Prop :=
  (f = 0 ∧ LI S G nb ∧ BD G.s G.nx nb K) ∨ (f = 5 ∧ LI S G bss ∧ BD G.s G.nx bss K) ∨ (f = 8 ∧ S.down = true ∧ ∀ ks, ∃ s a nx, DI (crashR S ks).secs s bss a nx ∧ BD s nx bss K)
theorem fp_append {S S' : DS} {G G' : LG} {bss : List (List UInt8)} {b : List UInt8} {er : Int} {K : Nat} (hli : LI S G bss) (hbd : BD G.s G.nx bss K) (hb : b.length ≤ 120)
    (h : (er = 5 ∧ S' = S ∧ G' = G ∧ roomR G < (needN b.length : Nat)) ∨ (er = 0 ∧ LI S' G' (bss ++ [b]) ∧ G' = G.to (G.at_ + (needN b.length : Nat)) (G.nx + 1) ∧ (S.left = -1 → S'.left = -1)) ∨ (er = 8 ∧ S'.down = true ∧ ∀ ks, DI (crashR S' ks).secs G.s bss G.at_ G.nx)) : FP S' G' er (bss ++ [b]) bss (K + 2) := by
  have hbd2 := hbd.mono (K' := K + 2) (by omega)
  rcases h with ⟨rfl, rfl, rfl, _⟩ | ⟨rfl, h1, rfl, _⟩ | ⟨rfl, h1, h2⟩
  · exact .inr (.inl ⟨rfl, hli, hbd2⟩)
  · obtain ⟨g1, g2, g3, g4, g5⟩ := hbd
    refine .inl ⟨rfl, h1, ?_, ?_, ?_, by rw [List.length_append]; simp; omega, fun c hc => ?_⟩
    · show G.s.n ≤ _; omega
    · show G.s.e ≤ _; omega
    · show G.nx + 1 ≤ _; omega
    · rcases List.mem_append.1 hc with hc | hc
      · exact g5 c hc
      · rw [List.mem_singleton] at hc
        subst hc
        exact hb
  · exact .inr (.inr ⟨rfl, h1, fun ks => ⟨_, _, _, h2 ks, hbd2⟩⟩)
theorem fp_turn {S S' : DS} {G G' : LG} {bss nb : List (List UInt8)} {er : Int} {K : Nat} (hli : LI S G bss) (hbd : BD G.s G.nx bss K) (hl : nb.length ≤ 2) (hb : ∀ b ∈ nb, b.length ≤ 120)
    (h : (er = 5 ∧ S' = S ∧ G' = G ∧ 256 < needS nb) ∨ (er = 0 ∧ needS nb ≤ 256 ∧ LI S' G' nb ∧ G' = ⟨turnS G, beginR (1 - G.s.h) + (needS nb : Nat), G.nx + (nb.length : Nat), 0⟩ ∧ (S.left = -1 → S'.left = -1)) ∨ (er = 8 ∧ S'.down = true ∧ ∀ ks, DI (crashR S' ks).secs G.s bss G.at_ G.nx)) : FP S' G' er nb bss (K + 2) := by
  have hbd2 := hbd.mono (K' := K + 2) (by omega)
  rcases h with ⟨rfl, rfl, rfl, _⟩ | ⟨rfl, _, h1, rfl, _⟩ | ⟨rfl, h1, h2⟩
  · exact .inr (.inl ⟨rfl, hli, hbd2⟩)
  · obtain ⟨g1, g2, g3, g4, g5⟩ := hbd
    refine .inl ⟨rfl, h1, ?_, ?_, ?_, by omega, hb⟩
    · show G.s.n + 1 ≤ _; omega
    · show G.s.e ≤ _; omega
    · show G.nx + (nb.length : Nat) ≤ _; omega
  · exact .inr (.inr ⟨rfl, h1, fun ks => ⟨_, _, _, h2 ks, hbd2⟩⟩)
/-- What a log, or its disk behind a crash, holds. -/
structure CP (S : DS) (G : LG) (bss : List (List UInt8)) (K : Nat) : Prop where
  cr : ∀ ks, ∃ s a nx, DI (crashR S ks).secs s bss a nx ∧ BD s nx bss K
  lv : S.down = false → LI S G bss ∧ BD G.s G.nx bss K
theorem cp_li {S : DS} {G : LG} {bss : List (List UInt8)} {K : Nat} (h : LI S G bss) (hb : BD G.s G.nx bss K) : CP S G bss K := ⟨fun ks => ⟨_, _, _, h.crash ks, hb⟩, fun _ => ⟨h, hb⟩⟩
theorem FP.zero {S : DS} {G : LG} {f : Int} {nb bss : List (List UInt8)} {K : Nat} (h : FP S G f nb bss K) (hf : f = 0) : CP S G nb K := by
  rcases h with ⟨_, h1, h2⟩ | ⟨h, _⟩ | ⟨h, _⟩
  · exact cp_li h1 h2
  · omega
  · omega
theorem FP.five {S : DS} {G : LG} {f : Int} {nb bss : List (List UInt8)} {K : Nat} (h : FP S G f nb bss K) (hf : f = 5) : CP S G bss K := by
  rcases h with ⟨h, _⟩ | ⟨_, h1, h2⟩ | ⟨h, _⟩
  · omega
  · exact cp_li h1 h2
  · omega
theorem FP.eight {S : DS} {G : LG} {f : Int} {nb bss : List (List UInt8)} {K : Nat} (h : FP S G f nb bss K) (h0 : f ≠ 0) (h5 : f ≠ 5) : f = 8 ∧ CP S G bss K := by
  rcases h with ⟨h, _⟩ | ⟨h, _⟩ | ⟨h, h1, h2⟩
  · omega
  · omega
  · exact ⟨h, h2, fun hc => by rw [h1] at hc; cases hc⟩
theorem half_nat (k : Nat) (h : k ≤ 100) : IntKind.i64.wrap (((k : Nat) : Int).tdiv 2) = ((k / 2 : Nat) : Int) := by
  rw [show ((k : Nat) : Int).tdiv 2 = ((k / 2 : Nat) : Int) from rfl, wrap_i64 (by omega)]
theorem need120 {b : List UInt8} (h : b.length ≤ 120) : needN b.length ≤ 255 := by unfold needN; omega
theorem bd_up {s s' : Slot} {nx : Int} {bss : List (List UInt8)} {K j : Nat} (h : BD s nx bss (K + j)) (hs : s' = s ∨ s' = s.up) : BD s' nx bss (K + (j + 1)) := by
  obtain ⟨h1, h2, h3, h4, h5⟩ := h
  rcases hs with rfl | rfl
  · exact ⟨by omega, by omega, by omega, by omega, h5⟩
  · refine ⟨?_, ?_, by omega, by omega, h5⟩
    · show s.n + 1 ≤ _; omega
    · show s.e + 1 ≤ _; omega
theorem bd_open {s : Slot} {a nx : Int} {bss : List (List UInt8)} {k j : Nat} (h : BD s nx bss (3 + 10 * k + 2 + j)) (hj : j ≤ 4) : BD (LG.mk s.up a nx 0).s (LG.mk s.up a nx 0).nx bss (3 + 10 * (k + 2)) := by
  obtain ⟨h1, h2, h3, h4, h5⟩ := h
  refine ⟨?_, ?_, ?_, by omega, h5⟩
  · show s.n + 1 ≤ _; omega
  · show s.e + 1 ≤ _; omega
  · show nx ≤ _; omega
set_option maxRecDepth 100000 in
set_option maxHeartbeats 4000000 in
theorem lcrash_spec {w0 w : World} {I : Imm} {L : Own} (hst : St w0 w I L) {vl vm vk : Value} {ls ms ks : List Int} (hl0 : RdI I vl ls) (hls : ∀ x ∈ ls, i64ok x) (hm0 : RdI I vm ms) (hms : ∀ x ∈ ms, i64ok x) (hk0 : RdI I vk ks) (hks : ∀ x ∈ ks, i64ok x) (hkl : ks.length ≤ 1048576) :
    Calls Try.prog 7 #[vl, vm, vk] w fun e w' => e = .returned (.bool true) ∧ ∃ I', I.le I' ∧ St w0 w' I' L := by
  refine enter Try.func7 rfl (N := 213) rfl rfl ?_
  simp only [List.zipIdx_cons, List.zipIdx_nil, List.map_cons, List.map_nil, Nat.zero_add, Nat.reduceAdd]
  have hle := Imm.le.refl I
  refine CW.seq ?_
  -- region 0
  refine CW.region ?_
  refine RW.op1 rfl (runs_assign rfl) ?_
  refine RW.done ?_
  refine AQ.next ?_
  refine CW.seq ?_
  -- region 1
  refine CW.region ?_
  refine RW.call rfl call9 rfl rfl (new_spec hst 514) ?_
  rintro e w ⟨_, Ld, rfl, _, hstn, hd, a1, rfl⟩
  clear hst
  have hst := hstn
  clear hstn
  rw [newR_L] at hd
  refine ⟨_, rfl, ?_⟩
  refine RW.op1 rfl (runs_assign rfl) ?_
  refine RW.done ?_
  refine AQ.next ?_
  refine CW.seq ?_
  refine CW.seq ?_
  -- region 2
  refine CW.region ?_
  refine RW.op1 rfl (runs_move rfl) ?_
  refine RW.op1 rfl (runs_eq_nilptr Try.underlying24 rfl) ?_
  refine RW.op1 rfl (runs_move rfl) ?_
  have hk26 := (show (Option.isNone (some a1)) = false from rfl)
  refine RW.on_guard rfl rfl rfl rfl hk26 ?_
  refine RW.op1 rfl (runs_move rfl) ?_
  refine RW.on_guard rfl rfl rfl rfl hk26 ?_
  refine RW.call rfl call10 rfl rfl (format_up hd hst ⟨rfl, rfl⟩ (List.length_replicate ..) (Nat.zero_le _)) ?_
  rintro e w ⟨I2, Ld2, S2, hI2, rfl, hstn, hd2, hu2, hp2, hdi2⟩
  clear hst
  have hst := hstn
  clear hstn
  replace hl0 := hl0.mono hI2
  replace hm0 := hm0.mono hI2
  replace hk0 := hk0.mono hI2
  replace hle := hle.trans hI2
  refine ⟨_, rfl, ?_⟩
  refine RW.on_guard rfl rfl rfl rfl hk26 ?_
  refine RW.op1 rfl (runs_neI rfl rfl) ?_
  refine RW.op1 rfl (runs_pick_false rfl hk26 rfl) ?_
  refine RW.done ?_
  refine AQ.next ?_
  refine CW.cond rfl (fun hc => absurd hc (by decide)) (fun hc => ?_)
  refine CW.skip ?_
  refine AQ.next ?_
  refine CW.seq ?_
  -- region 4
  refine CW.region ?_
  refine RW.op1 rfl (runs_assign rfl) ?_
  refine RW.done ?_
  refine AQ.next ?_
  refine CW.seq ?_
  -- region 5
  refine CW.region ?_
  refine RW.op1 rfl (runs_move rfl) ?_
  refine RW.call rfl call11 rfl rfl (open_up hd2 hst hu2 hp2 hdi2 (by decide)) ?_
  rintro e w ⟨I3, Ld3, lb, y, vs, S3, hI3, rfl, hstn, hd3, hr3, hli3, hu3⟩
  clear hst
  have hst := hstn
  clear hstn
  replace hl0 := hl0.mono hI3
  replace hm0 := hm0.mono hI3
  replace hk0 := hk0.mono hI3
  replace hle := hle.trans hI3
  refine ⟨_, rfl, ?_⟩
  refine RW.op1 rfl (runs_move rfl) ?_
  refine RW.op1 rfl (runs_extract rfl rfl) ?_
  refine RW.op1 rfl (runs_extract rfl rfl) ?_
  refine RW.op1 rfl (runs_extract rfl rfl) ?_
  refine RW.op1 rfl (runs_assign rfl) ?_
  refine RW.op1 rfl (runs_assign rfl) ?_
  refine RW.op1 rfl (runs_assign rfl) ?_
  refine RW.done ?_
  refine AQ.next ?_
  refine CW.seq ?_
  refine CW.seq ?_
  -- region 6
  refine CW.region ?_
  refine RW.op1 rfl (runs_assign rfl) ?_
  refine RW.done ?_
  refine AQ.next ?_
  refine CW.block ?_
  -- loop 1
  have hbd3 : BD slot1.up 1 [] (3 + 10 * 0) := ⟨by decide, by decide, by decide, by decide, fun b hb => by cases hb⟩
  refine CW.loop ((Imm × Own × DS × Nat × LG × List (List UInt8) × Value × List Value) × Nat) (fun z w => (I.le z.1.1 ∧ St w0 w z.1.1 ((z.1.2.2.2.1, .cells (logV (.pointer (some a1)) z.1.2.2.2.2.1).toArray 69) :: (z.1.2.1 ++ L)) ∧ DiskO (.pointer (some a1)) z.1.2.2.1 z.1.2.1 ∧ (Up z.1.2.2.1 ∧ LI z.1.2.2.1 z.1.2.2.2.2.1 z.1.2.2.2.2.2.1 ∧ BD z.1.2.2.2.2.1.s z.1.2.2.2.2.1.nx z.1.2.2.2.2.2.1 (3 + 10 * z.2)) ∧ RdR z.1.1 z.1.2.2.2.2.2.2.1 z.1.2.2.2.2.2.2.2 z.1.2.2.2.2.2.1 ∧ RdI z.1.1 vl ls ∧ RdI z.1.1 vm ms ∧ RdI z.1.1 vk ks) ∧ z.2 ≤ 41) (fun z => [(0, vl), (1, vm), (2, vk), (7, .pointer (some a1)), (8, z.1.2.2.2.2.2.2.1), (9, .pointer (some ⟨z.1.2.2.2.1, 0, none⟩)), (11, .int .i64 0), (12, .int .i64 (z.2 : Nat))]) (fun z => 100 - z.2) ⟨((_, Ld3, S3, lb, ⟨slot1.up, 2, 1, 0⟩, [], _, []), 0), ⟨⟨hle, hst, hd3, ⟨hu3, hli3, hbd3⟩, rows0, hl0, hm0, hk0⟩, Nat.zero_le _⟩, ⟨rfl, rfl, rfl, rfl, rfl, rfl, rfl, rfl, trivial⟩⟩ ?_
  clear hle hst hd hd2 hd3 hbd3 hl0 hm0 hk0
  rintro ⟨⟨IK, Ld, S, lb, G, bss, vh, vs⟩, k⟩ w ⟨⟨hle, hst, hd, hup, hrh, hl0, hm0, hk0⟩, hk⟩
  dsimp only at hle hst hd hup hrh hl0 hm0 hk0 ⊢
  obtain ⟨hu, hli, hbd⟩ := hup
  refine CW.seq ?_
  refine CW.seq ?_
  -- region 7
  refine CW.cut Unit (fun _ w => St w0 w IK ((lb, .cells (logV (.pointer (some a1)) G).toArray 69) :: (Ld ++ L))) (fun _ => [(0, vl), (1, vm), (2, vk), (7, .pointer (some a1)), (8, vh), (9, .pointer (some ⟨lb, 0, none⟩)), (11, .int .i64 0), (12, .int .i64 (k : Nat)), (45, .bool (decide ((k : Int) + 1 < ls.length ∧ (k : Int) < 40)))]) ?_ ?_
  · -- region 7
    refine CW.region ?_
    refine RW.op1 rfl (runs_move rfl) ?_
    refine RW.op1 rfl (runs_add rfl rfl (by omega)) ?_
    refine RW.op1 rfl (runs_move rfl) ?_
    refine RW.op1 rfl (RdL.len Try.underlying22 rfl hl0) ?_
    refine RW.op1 rfl (runs_lss rfl rfl) ?_
    refine RW.op1 rfl (runs_move rfl) ?_
    refine RW.split (t := 42) rfl (fun hb42 => ?_) (fun hb42 => ?_)
    · have hb42p := hb42
      try simp only [decide_eq_true_eq, decide_eq_false_iff_not] at hb42p
      refine RW.on_guard rfl rfl rfl rfl hb42 ?_
      refine RW.op1 rfl (runs_move rfl) ?_
      refine RW.on_guard rfl rfl rfl rfl hb42 ?_
      refine RW.op1 rfl (runs_lss rfl rfl) ?_
      refine RW.op1 rfl (runs_pick_true rfl hb42 rfl) ?_
      refine RW.done ?_
      exact AQ.meet () hst ⟨rfl, rfl, rfl, rfl, rfl, rfl, rfl, rfl, boolN (by simp only [decide_eq_true_eq, true_iff, Bool.false_eq_true, false_iff]; omega), trivial⟩
    · have hb42p := hb42
      try simp only [decide_eq_true_eq, decide_eq_false_iff_not] at hb42p
      refine RW.off_guard rfl rfl rfl rfl hb42 ?_
      refine RW.off_guard rfl rfl rfl rfl hb42 ?_
      refine RW.op1 rfl (runs_pick_false rfl hb42 rfl) ?_
      refine RW.done ?_
      exact AQ.meet () hst ⟨rfl, rfl, rfl, rfl, rfl, rfl, rfl, rfl, boolN (by simp only [decide_eq_true_eq, true_iff, Bool.false_eq_true, false_iff]; omega), trivial⟩
  · rintro _ w hstn
    clear hst
    have hst := hstn
    clear hstn
    refine AQ.next ?_
    refine CW.cond rfl (fun hc45 => ?_) (fun hc45 => ?_)
    · have hcb45 := hc45
      try simp only [decide_eq_true_eq, decide_eq_false_iff_not] at hc45
      obtain ⟨hk1, hk2⟩ := hc45
      have ho0 : i64ok (iat ls (k : Int)) := iat_okE hls (by omega) (by omega)
      have ho1 : i64ok (iat ls ((k : Int) + 1)) := iat_okE hls (by omega) (by omega)
      have hrg := hli.di.rng
      refine CW.skip ?_
      refine AQ.next ?_
      refine CW.seq ?_
      refine CW.block ?_
      refine CW.seq ?_
      refine CW.seq ?_
      -- region 9
      refine CW.region ?_
      refine RW.op1 rfl (runs_move rfl) ?_
      refine RW.op1 rfl (runs_neI rfl rfl) ?_
      refine RW.op1 rfl (runs_move rfl) ?_
      have hk50 := (show decide ((0 : Int) ≠ 0) = false by decide)
      refine RW.on_guard rfl rfl rfl rfl hk50 ?_
      refine RW.op1 rfl (runs_move rfl) ?_
      refine RW.on_guard rfl rfl rfl rfl hk50 ?_
      refine RW.op1 rfl (runs_eq_nilptr Try.underlying28 rfl) ?_
      refine RW.op1 rfl (runs_pick_false rfl hk50 rfl) ?_
      refine RW.done ?_
      refine AQ.next ?_
      refine CW.cond rfl (fun hc => absurd hc (by rw [(show (Option.isNone (some (⟨lb, 0, none⟩ : Addr))) = false from rfl)]; decide)) (fun hc => ?_)
      refine CW.skip ?_
      refine AQ.next ?_
      refine CW.seq ?_
      -- region 11
      refine CW.drawSt hst (.q 0 (.q 1 (.q 2 (.q 3 (.q 4 (.q 5 (.q 6 (.q 7 (.q 8 (.q 9 (.q 10 (.q 11 (.l 12 (.l 13 (.q 14 .nil))))))))))))))) follows (by kernel_rfl) (fun w hst => ?_)
      refine DRW.q rfl rfl (fun w' hF => runs_move rfl) ?_
      refine DRW.q rfl rfl (fun w' hF => runs_move rfl) ?_
      refine DRW.q rfl rfl (fun w' hF => runs_add rfl rfl (by omega)) ?_
      refine DRW.q rfl rfl (fun w' hF => RdL.indexAddr Try.underlying22 ti3 (by decide) rfl rfl hl0 (by omega)) ?_
      first
        | refine DRW.q rfl rfl (FSt.load1 sc3 rfl (RdI.at (by assumption) (by omega) (by omega))) ?_
        | refine DRW.q rfl rfl (FSt.load1_own sc3 rfl (k := 0) rfl rfl) ?_
        | refine DRW.q rfl rfl (FSt.load1_own sc3 rfl (k := 1) rfl rfl) ?_
        | refine DRW.q rfl rfl (FSt.load1_own sc3 rfl (k := 2) rfl rfl) ?_
      refine DRW.q rfl rfl (fun w' hF => runs_move rfl) ?_
      refine DRW.q rfl rfl (fun w' hF => runs_addW rfl rfl) ?_
      refine DRW.q rfl rfl (fun w' hF => runs_move rfl) ?_
      refine DRW.q rfl rfl (fun w' hF => runs_move rfl) ?_
      refine DRW.q rfl rfl (fun w' hF => runs_add rfl rfl (by omega)) ?_
      refine DRW.q rfl rfl (fun w' hF => RdL.indexAddr Try.underlying22 ti3 (by decide) rfl rfl hl0 (by omega)) ?_
      first
        | refine DRW.q rfl rfl (FSt.load1 sc3 rfl (RdI.at (by assumption) (by omega) (by omega))) ?_
        | refine DRW.q rfl rfl (FSt.load1_own sc3 rfl (k := 0) rfl rfl) ?_
        | refine DRW.q rfl rfl (FSt.load1_own sc3 rfl (k := 1) rfl rfl) ?_
        | refine DRW.q rfl rfl (FSt.load1_own sc3 rfl (k := 2) rfl rfl) ?_
      refine DRW.call rfl rfl call8 rfl rfl (within_spec hst (v := iat ls ((k : Int) + 1)) (n := 120) ho1 (by unfold i64ok; decide)) ?_
      rintro e w ⟨rfl, hstn⟩
      clear hst
      have hst := hstn
      clear hstn
      have hw7 := within_range (iat ls ((k : Int) + 1)) 120
      generalize within (iat ls ((k : Int) + 1)) 120 = x7 at *
      refine ⟨_, rfl, FSt.of hst (Imm.le.refl _) (by first | exact (List.sublist_cons_self _ _).trans (List.sublist_append_right _ _) | exact List.Sublist.refl _ | exact List.sublist_cons_self _ _ | exact List.sublist_append_right _ _ | exact (List.sublist_cons_self _ _).trans (List.sublist_cons_self _ _) | exact (List.sublist_append_right _ _).trans (List.sublist_cons_self _ _) | simp), ?_⟩
      refine DRW.call rfl rfl call13 rfl rfl (bytes_spec hst (IntKind.i64.wrap (iat ls ((k : Int) + 1) + (k : Int))) x7 (wrap_ok _) (by omega)) ?_
      rintro e w ⟨I5, vb, hI5, rfl, hstn, hB⟩
      clear hst
      have hst := hstn
      clear hstn
      have hbl : (bytesOf (IntKind.i64.wrap (iat ls ((k : Int) + 1) + (k : Int))) x7).length ≤ 120 := by rw [bytesOf_length]; omega
      generalize bytesOf (IntKind.i64.wrap (iat ls ((k : Int) + 1) + (k : Int))) x7 = bb at hB hbl
      have hbn := need120 hbl
      replace hl0 := hl0.mono hI5
      replace hm0 := hm0.mono hI5
      replace hk0 := hk0.mono hI5
      replace hrh := hrh.mono hI5
      replace hle := hle.trans hI5
      refine ⟨_, rfl, FSt.of hst hI5 (by first | exact (List.sublist_cons_self _ _).trans (List.sublist_append_right _ _) | exact List.Sublist.refl _ | exact List.sublist_cons_self _ _ | exact List.sublist_append_right _ _ | exact (List.sublist_cons_self _ _).trans (List.sublist_cons_self _ _) | exact (List.sublist_append_right _ _).trans (List.sublist_cons_self _ _) | simp), ?_⟩
      refine DRW.q rfl rfl (fun w' hF => runs_assign rfl) ?_
      refine DRW.done ?_
      refine AQ.next ?_
      refine CW.seq ?_
      refine CW.seq ?_
      -- region 12
      refine CW.region ?_
      refine RW.op1 rfl (runs_move rfl) ?_
      refine RW.op1 rfl (runs_quo rfl rfl (by decide)) ?_
      rw [half_nat k (by omega)]
      refine RW.op1 rfl (runs_move rfl) ?_
      refine RW.op1 rfl (RdL.len Try.underlying22 rfl hm0) ?_
      refine RW.op1 rfl (runs_lss rfl rfl) ?_
      refine RW.done ?_
      refine AQ.next ?_
      refine CW.cut (Imm × Own × Int) (fun y w => I.le y.1 ∧ St w0 w y.1 ((lb, .cells (logV (.pointer (some a1)) G).toArray 69) :: (y.2.1 ++ L)) ∧ DiskO (.pointer (some a1)) { S with left := y.2.2 } y.2.1 ∧ RdR y.1 vh vs bss ∧ RdB y.1 vb bb ∧ RdI y.1 vl ls ∧ RdI y.1 vm ms ∧ RdI y.1 vk ks) (fun y => [(0, vl), (1, vm), (2, vk), (7, .pointer (some a1)), (8, vh), (9, .pointer (some ⟨lb, 0, none⟩)), (11, .int .i64 0), (12, .int .i64 (k : Nat)), (13, vb)]) ?_ ?_
      · refine CW.cond rfl (fun hc72 => ?_) (fun hc72 => ?_)
        · have hcb72 := hc72
          try simp only [decide_eq_true_eq, decide_eq_false_iff_not] at hc72
          -- region 13
          refine CW.region ?_
          refine RW.op1 rfl (runs_move rfl) ?_
          refine RW.op1 rfl (runs_move rfl) ?_
          refine RW.op1 rfl (runs_move rfl) ?_
          refine RW.op1 rfl (runs_quo rfl rfl (by decide)) ?_
          rw [half_nat k (by omega)]
          refine RW.op1 rfl (RdL.indexAddr Try.underlying22 ti3 (by decide) rfl rfl hm0 (by omega)) ?_
          refine RW.op1 rfl (runs_load1 sc3 rfl (hst.cell_imm (RdI.at hm0 (by omega) (by omega)))) ?_
          refine RW.call rfl call8 rfl rfl (within_spec hst (v := iat ms ((k / 2 : Nat) : Int)) (n := 24) (iat_okE hms (by omega) (by omega)) (by unfold i64ok; decide)) ?_
          rintro e w ⟨rfl, hstn⟩
          clear hst
          have hst := hstn
          clear hstn
          have hw24 := within_range (iat ms ((k / 2 : Nat) : Int)) 24
          generalize within (iat ms ((k / 2 : Nat) : Int)) 24 = x24 at *
          refine ⟨_, rfl, ?_⟩
          refine RW.call rfl call17 rfl rfl (limit_spec hd (hst.perm List.perm_middle.symm) x24 (by unfold i64ok; omega)) ?_
          rintro e w ⟨rfl, LdT, hstn, hdT⟩
          clear hst
          have hst := hstn
          clear hstn
          replace hst := hst.perm List.perm_middle
          refine ⟨_, rfl, ?_⟩
          refine RW.done ?_
          first
            | exact AQ.meet (_, _, _) ⟨hle, hst, hdT, hrh, hB, hl0, hm0, hk0⟩ ⟨rfl, rfl, rfl, rfl, rfl, rfl, rfl, rfl, rfl, trivial⟩
            | exact AQ.meet (_, _, S.left) ⟨hle, hst, hd, hrh, hB, hl0, hm0, hk0⟩ ⟨rfl, rfl, rfl, rfl, rfl, rfl, rfl, rfl, rfl, trivial⟩
        · have hcb72 := hc72
          try simp only [decide_eq_true_eq, decide_eq_false_iff_not] at hc72
          refine CW.skip ?_
          first
            | exact AQ.meet (_, _, _) ⟨hle, hst, hdT, hrh, hB, hl0, hm0, hk0⟩ ⟨rfl, rfl, rfl, rfl, rfl, rfl, rfl, rfl, rfl, trivial⟩
            | exact AQ.meet (_, _, S.left) ⟨hle, hst, hd, hrh, hB, hl0, hm0, hk0⟩ ⟨rfl, rfl, rfl, rfl, rfl, rfl, rfl, rfl, rfl, trivial⟩
      · clear hle hst hd hrh hB hl0 hm0 hk0
        rintro ⟨IT, LdT, xl⟩ w ⟨hle, hst, hd, hrh, hB, hl0, hm0, hk0⟩
        dsimp only at hle hst hd hrh hB hl0 hm0 hk0 ⊢
        have hliT := hli.limit xl
        refine AQ.next ?_
        refine CW.seq ?_
        -- region 14
        refine CW.region ?_
        refine RW.op1 rfl (runs_move rfl) ?_
        refine RW.op1 rfl (runs_move rfl) ?_
        refine RW.op1 rfl (RdL.len Try.underlying29 rfl hrh.1) ?_
        refine RW.op1 rfl (runs_move rfl) ?_
        refine RW.op1 rfl (RdL.len Try.underlying29 rfl hrh.1) ?_
        refine RW.op1 rfl (RdR.full Try.underlying29 ti33 rfl rfl rfl hrh) ?_
        obtain ⟨A72, hA72, hf72⟩ := hrh.fullR
        rw [hA72]
        refine RW.op1 rfl (runs_move rfl) ?_
        refine RW.opE rfl (runs_lit1R (xs := [vb]) Try.underlying29 ti33 (by decide) rfl rfl rfl (by have := hB.one; simp [this]) hst) ?_
        rintro u8 w ⟨I8, hI8, hstn, h8⟩
        clear hst
        have hst := hstn
        clear hstn
        replace hrh := hrh.mono hI8
        replace hB := hB.mono hI8
        replace hl0 := hl0.mono hI8
        replace hm0 := hm0.mono hI8
        replace hk0 := hk0.mono hI8
        replace hf72 := hf72.mono hI8
        replace hle := hle.trans hI8
        refine RW.opE rfl (runs_appendRowF Try.underlying29 ti33 rfl rfl rfl hst hf72 (by assumption) hB (by have := hrh.2.1; have := hbd.2.2.2.1; omega) (by have := hbd.2.2.2.1; unfold maxLen; omega)) ?_
        rintro u9 w ⟨Lv9, hstn, hg9⟩
        clear hst
        have hst := hstn
        clear hstn
        obtain ⟨I75, vs75, hI75, hst75, hrN⟩ := GrowR.freeze hg9 hst
        clear hst
        have hst := hst75
        replace hle := hle.trans hI75
        replace hl0 := RdL.mono hI75 hl0
        replace hm0 := RdL.mono hI75 hm0
        replace hk0 := RdL.mono hI75 hk0
        replace hB := RdL.mono hI75 hB
        replace hrh := RdR.mono hrh hI75
        replace hf72 := RdR.mono hf72 hI75
        refine RW.op1 rfl (runs_assign rfl) ?_
        refine RW.done ?_
        refine AQ.next ?_
        refine CW.seq ?_
        -- region 15
        refine CW.region ?_
        refine RW.op1 rfl (runs_assign rfl) ?_
        refine RW.done ?_
        refine AQ.next ?_
        refine CW.seq ?_
        refine CW.seq ?_
        -- region 16
        refine CW.region ?_
        refine RW.op1 rfl (runs_move rfl) ?_
        refine RW.op1 rfl (runs_move rfl) ?_
        refine RW.op1 rfl (RdL.indexAddr Try.underlying22 ti3 (by decide) rfl rfl hl0 (by omega)) ?_
        first
          | refine RW.op1 rfl (runs_load1 sc3 rfl (hst.cell_imm (RdI.at (by assumption) (by omega) (by omega)))) ?_
          | refine RW.op1 rfl (runs_load1 sc3 rfl (hst.cell_own (k := 0) rfl rfl)) ?_
          | refine RW.op1 rfl (runs_load1 sc3 rfl (hst.cell_own (k := 1) rfl rfl)) ?_
          | refine RW.op1 rfl (runs_load1 sc3 rfl (hst.cell_own (k := 2) rfl rfl)) ?_
        refine RW.call rfl call8 rfl rfl (within_spec hst (v := iat ls (k : Int)) (n := 4) ho0 (by unfold i64ok; decide)) ?_
        rintro e w ⟨rfl, hstn⟩
        clear hst
        have hst := hstn
        clear hstn
        generalize within (iat ls (k : Int)) 4 = x4 at *
        refine ⟨_, rfl, ?_⟩
        refine RW.op1 rfl (runs_assign rfl) ?_
        refine RW.done ?_
        refine AQ.next ?_
        refine CW.seq ?_
        -- region 17
        refine CW.region ?_
        refine RW.op1 rfl (runs_move rfl) ?_
        refine RW.op1 rfl (runs_eqI rfl rfl) ?_
        refine RW.done ?_
        refine AQ.next ?_
        refine CW.cut (Imm × Own × DS × LG × Int × Value × List Value × List (List UInt8)) (fun y w => I.le y.1 ∧ St w0 w y.1 ((lb, .cells (logV (.pointer (some a1)) y.2.2.2.1).toArray 69) :: (y.2.1 ++ L)) ∧ DiskO (.pointer (some a1)) y.2.2.1 y.2.1 ∧ RdR y.1 vh vs bss ∧ RdR y.1 y.2.2.2.2.2.1 y.2.2.2.2.2.2.1 y.2.2.2.2.2.2.2 ∧ (RdI y.1 vl ls ∧ RdI y.1 vm ms ∧ RdI y.1 vk ks) ∧ FP y.2.2.1 y.2.2.2.1 y.2.2.2.2.1 y.2.2.2.2.2.2.2 bss (3 + 10 * k + 2)) (fun y => [(0, vl), (1, vm), (2, vk), (7, .pointer (some a1)), (8, vh), (9, .pointer (some ⟨lb, 0, none⟩)), (11, .int .i64 0), (12, .int .i64 (k : Nat)), (14, y.2.2.2.2.2.1), (15, .int .i64 y.2.2.2.2.1)]) ?_ ?_
        · refine CW.cond rfl (fun hc96 => ?_) (fun hc96 => ?_)
          · have hcb96 := hc96
            try simp only [decide_eq_true_eq, decide_eq_false_iff_not] at hc96
            refine CW.seq ?_
            -- region 18
            refine CW.region ?_
            refine RW.op1 rfl (runs_assign rfl) ?_
            refine RW.done ?_
            refine AQ.next ?_
            refine CW.seq ?_
            refine CW.seq ?_
            -- region 19
            refine CW.region ?_
            refine RW.op1 rfl (runs_assign rfl) ?_
            refine RW.done ?_
            refine AQ.next ?_
            refine CW.block ?_
            -- loop 2
            refine CW.loop (Nat × Imm × Value × List (List UInt8) × Own) (fun x w => I.le x.2.1 ∧ St w0 w x.2.1 ((lb, .cells (logV (.pointer (some a1)) G).toArray 69) :: (LdT ++ (x.2.2.2.2 ++ L))) ∧ GrowR x.2.1 33 x.2.2.1 x.2.2.2.1 x.2.2.2.2 ∧ RdR x.2.1 vh vs bss ∧ RdI x.2.1 vl ls ∧ RdI x.2.1 vm ms ∧ RdI x.2.1 vk ks ∧ (x.2.2.2.1.length = x.1 ∧ x.1 ≤ 2) ∧ ∀ b ∈ x.2.2.2.1, b.length ≤ 120) (fun x => [(0, vl), (1, vm), (2, vk), (7, .pointer (some a1)), (8, vh), (9, .pointer (some ⟨lb, 0, none⟩)), (11, .int .i64 0), (12, .int .i64 (k : Nat)), (14, x.2.2.1), (17, .int .i64 (x.1 : Nat))]) (fun x => 4 - x.1) ⟨(0, _, _, [], []), ⟨hle, hst, GrowR.nil _, hrh, hl0, hm0, hk0, ⟨rfl, Nat.zero_le _⟩, fun b hb => by cases hb⟩, ⟨rfl, rfl, rfl, rfl, rfl, rfl, rfl, rfl, rfl, rfl, trivial⟩⟩ ?_
            clear hle hst hrh hl0 hm0 hk0
            rintro ⟨j, IJ, vn, nb, Ln⟩ w ⟨hle, hst, hgn, hrh, hl0, hm0, hk0, hj, hnb⟩
            dsimp only at hle hst hgn hrh hl0 hm0 hk0 hj hnb ⊢
            refine CW.seq ?_
            refine CW.seq ?_
            -- region 20
            refine CW.region ?_
            refine RW.op1 rfl (runs_move rfl) ?_
            refine RW.op1 rfl (runs_move rfl) ?_
            refine RW.op1 rfl (runs_move rfl) ?_
            refine RW.op1 rfl (RdL.indexAddr Try.underlying22 ti3 (by decide) rfl rfl hl0 (by omega)) ?_
            first
              | refine RW.op1 rfl (runs_load1 sc3 rfl (hst.cell_imm (RdI.at (by assumption) (by omega) (by omega)))) ?_
              | refine RW.op1 rfl (runs_load1 sc3 rfl (hst.cell_own (k := 0) rfl rfl)) ?_
              | refine RW.op1 rfl (runs_load1 sc3 rfl (hst.cell_own (k := 1) rfl rfl)) ?_
              | refine RW.op1 rfl (runs_load1 sc3 rfl (hst.cell_own (k := 2) rfl rfl)) ?_
            refine RW.op1 rfl (runs_quo rfl rfl (by decide)) ?_
            refine RW.call rfl call8 rfl rfl (within_spec hst (v := IntKind.i64.wrap ((iat ls (k : Int)).tdiv 4)) (n := 3) (wrap_ok _) (by unfold i64ok; decide)) ?_
            rintro e w ⟨rfl, hstn⟩
            clear hst
            have hst := hstn
            clear hstn
            have hw3 := within_range (IntKind.i64.wrap ((iat ls (k : Int)).tdiv 4)) 3
            refine ⟨_, rfl, ?_⟩
            refine RW.op1 rfl (runs_lss rfl rfl) ?_
            refine RW.done ?_
            refine AQ.next ?_
            refine CW.cond rfl (fun hc104 => ?_) (fun hc104 => ?_)
            · have hcb104 := hc104
              try simp only [decide_eq_true_eq, decide_eq_false_iff_not] at hc104
              refine CW.skip ?_
              refine AQ.next ?_
              refine CW.seq ?_
              refine CW.block ?_
              -- region 22
              refine CW.region ?_
              refine RW.op1 rfl (runs_move rfl) ?_
              refine RW.op1 rfl (runs_move rfl) ?_
              refine RW.op1 rfl (runs_move rfl) ?_
              refine RW.op1 rfl (runs_add rfl rfl (by omega)) ?_
              refine RW.op1 rfl (RdL.indexAddr Try.underlying22 ti3 (by decide) rfl rfl hl0 (by omega)) ?_
              first
                | refine RW.op1 rfl (runs_load1 sc3 rfl (hst.cell_imm (RdI.at (by assumption) (by omega) (by omega)))) ?_
                | refine RW.op1 rfl (runs_load1 sc3 rfl (hst.cell_own (k := 0) rfl rfl)) ?_
                | refine RW.op1 rfl (runs_load1 sc3 rfl (hst.cell_own (k := 1) rfl rfl)) ?_
                | refine RW.op1 rfl (runs_load1 sc3 rfl (hst.cell_own (k := 2) rfl rfl)) ?_
              refine RW.op1 rfl (runs_move rfl) ?_
              refine RW.op1 rfl (runs_mul rfl rfl (by omega)) ?_
              refine RW.op1 rfl (runs_addW rfl rfl) ?_
              refine RW.call rfl call13 rfl rfl (bytes_spec hst (IntKind.i64.wrap (iat ls ((k : Int) + 1) + 7 * (j : Int))) 30 (wrap_ok _) (by omega)) ?_
              rintro e w ⟨I12, vc, hI12, rfl, hstn, hC⟩
              clear hst
              have hst := hstn
              clear hstn
              have hcl : (bytesOf (IntKind.i64.wrap (iat ls ((k : Int) + 1) + 7 * (j : Int))) 30).length ≤ 120 := by rw [bytesOf_length]; decide
              generalize bytesOf (IntKind.i64.wrap (iat ls ((k : Int) + 1) + 7 * (j : Int))) 30 = cc at hC hcl
              replace hgn := hgn.mono hI12
              replace hrh := hrh.mono hI12
              replace hl0 := hl0.mono hI12
              replace hm0 := hm0.mono hI12
              replace hk0 := hk0.mono hI12
              replace hle := hle.trans hI12
              refine ⟨_, rfl, ?_⟩
              refine RW.opE rfl (runs_lit1R (xs := [vc]) Try.underlying29 ti33 (by decide) rfl rfl rfl (by have := hC.one; simp [this]) hst) ?_
              rintro u13 w ⟨I13, hI13, hstn, h13⟩
              clear hst
              have hst := hstn
              clear hstn
              replace hgn := hgn.mono hI13
              replace hrh := hrh.mono hI13
              replace hl0 := hl0.mono hI13
              replace hm0 := hm0.mono hI13
              replace hk0 := hk0.mono hI13
              replace hC := hC.mono hI13
              replace hle := hle.trans hI13
              refine RW.opE rfl (runs_appendRow Try.underlying29 ti33 rfl rfl rfl (hst.perm (perm_out _ LdT Ln L)) hgn (by assumption) hC (by omega) (by unfold maxLen; omega)) ?_
              rintro u14 w ⟨Lv14, hstn, hg14⟩
              clear hst
              have hst := hstn
              clear hstn
              have hgn2 := hg14
              replace hst := hst.perm (perm_out _ LdT Lv14 L).symm
              refine RW.op1 rfl (runs_assign rfl) ?_
              refine RW.done ?_
              refine AQ.block_normal ?_
              refine AQ.next ?_
              -- region 21
              refine CW.region ?_
              refine RW.op1 rfl (runs_move rfl) ?_
              refine RW.op1 rfl (runs_add rfl rfl (by omega)) ?_
              refine RW.op1 rfl (runs_assign rfl) ?_
              refine RW.done ?_
              exact AQ.again (x := (j, IJ, vn, nb, Ln)) (j + 1, _, _, nb ++ [cc], _) ⟨hle, hst, hgn2, hrh, hl0, hm0, hk0, ⟨by rw [List.length_append]; simp; omega, by dsimp only; omega⟩, fun b hb => by
                rcases List.mem_append.1 hb with hb | hb
                · exact hnb b hb
                · rw [List.mem_singleton] at hb
                  subst hb
                  exact hcl⟩ ⟨rfl, rfl, rfl, rfl, rfl, rfl, rfl, rfl, rfl, rfl, trivial⟩ (by dsimp only; omega)
            · have hcb104 := hc104
              try simp only [decide_eq_true_eq, decide_eq_false_iff_not] at hc104
              refine CW.exit ?_
              refine AQ.past_exit ?_
              refine AQ.past_exit ?_
              refine AQ.block_hit ?_
              refine AQ.next ?_
              -- region 23
              refine CW.region ?_
              obtain ⟨I23, vs23, hI23, hst23, hrN⟩ := GrowR.freeze hgn (hst.perm (perm_out _ LdT Ln L))
              clear hst
              have hst := hst23
              replace hle := hle.trans hI23
              replace hl0 := RdL.mono hI23 hl0
              replace hm0 := RdL.mono hI23 hm0
              replace hk0 := RdL.mono hI23 hk0
              replace hrh := RdR.mono hrh hI23
              refine RW.op1 rfl (runs_move rfl) ?_
              refine RW.op1 rfl (runs_move rfl) ?_
              refine RW.call rfl call22 rfl rfl (turn_any hd hst hliT hrN (by omega) (fun b hb => need120 (hnb b hb)) (by have := hbd.2.2.1; omega) (by have := hbd.1; omega)) ?_
              rintro e w ⟨I15, LdU, SU, GU, eU, hI15, rfl, hstn, hdU, _, htu⟩
              clear hst
              have hst := hstn
              clear hstn
              have hfp := fp_turn hliT hbd (by omega) hnb htu
              replace hrN := hrN.mono hI15
              replace hrh := hrh.mono hI15
              replace hl0 := hl0.mono hI15
              replace hm0 := hm0.mono hI15
              replace hk0 := hk0.mono hI15
              replace hle := hle.trans hI15
              refine ⟨_, rfl, ?_⟩
              refine RW.op1 rfl (runs_assign rfl) ?_
              refine RW.done ?_
              exact AQ.meet (_, _, _, _, _, _, _, _) ⟨hle, hst, hdU, hrh, hrN, ⟨hl0, hm0, hk0⟩, hfp⟩ ⟨rfl, rfl, rfl, rfl, rfl, rfl, rfl, rfl, rfl, rfl, trivial⟩
          · have hcb96 := hc96
            try simp only [decide_eq_true_eq, decide_eq_false_iff_not] at hc96
            -- region 24
            refine CW.region ?_
            refine RW.op1 rfl (runs_move rfl) ?_
            refine RW.op1 rfl (runs_move rfl) ?_
            refine RW.call rfl call18 rfl rfl (append_any hd hst hliT hB hbn (by have := hbd.2.2.1; omega)) ?_
            rintro e w ⟨I16, LdU, SU, GU, eU, hI16, rfl, hstn, hdU, _, hap⟩
            clear hst
            have hst := hstn
            clear hstn
            have hfp := fp_append hliT hbd hbl hap
            replace hrN := hrN.mono hI16
            replace hrh := hrh.mono hI16
            replace hl0 := hl0.mono hI16
            replace hm0 := hm0.mono hI16
            replace hk0 := hk0.mono hI16
            replace hB := hB.mono hI16
            replace hle := hle.trans hI16
            refine ⟨_, rfl, ?_⟩
            refine RW.op1 rfl (runs_assign rfl) ?_
            refine RW.done ?_
            exact AQ.meet (_, _, _, _, _, _, _, _) ⟨hle, hst, hdU, hrh, hrN, ⟨hl0, hm0, hk0⟩, hfp⟩ ⟨rfl, rfl, rfl, rfl, rfl, rfl, rfl, rfl, rfl, rfl, trivial⟩
        · clear hle hst hrh hB hl0 hm0 hk0 hrN
          rintro ⟨IU, LdU, SU, GU, eU, vN, vsN, bsN⟩ w ⟨hle, hst, hdU, hrh, hrN, ⟨hl0, hm0, hk0⟩, hfp⟩
          dsimp only at hle hst hdU hrh hrN hl0 hm0 hk0 hfp ⊢
          refine AQ.next ?_
          refine CW.seq ?_
          refine CW.seq ?_
          -- region 25
          refine CW.region ?_
          refine RW.op1 rfl (runs_move rfl) ?_
          refine RW.op1 rfl (runs_eqI rfl rfl) ?_
          refine RW.done ?_
          refine AQ.next ?_
          refine CW.cut (List (List UInt8) × Value × List Value) (fun y w => St w0 w IU ((lb, .cells (logV (.pointer (some a1)) GU).toArray 69) :: (LdU ++ L)) ∧ RdR IU y.2.1 y.2.2 y.1 ∧ CP SU GU y.1 (3 + 10 * k + 2)) (fun y => [(0, vl), (1, vm), (2, vk), (7, .pointer (some a1)), (8, y.2.1), (9, .pointer (some ⟨lb, 0, none⟩)), (11, .int .i64 0), (12, .int .i64 (k : Nat))]) ?_ ?_
          · refine CW.cond rfl (fun hc126 => ?_) (fun hc126 => ?_)
            · have hcb126 := hc126
              try simp only [decide_eq_true_eq, decide_eq_false_iff_not] at hc126
              -- region 26
              refine CW.region ?_
              refine RW.op1 rfl (runs_move rfl) ?_
              refine RW.op1 rfl (runs_assign rfl) ?_
              refine RW.done ?_
              first
                | exact AQ.meet (_, _, _) ⟨hst, hrN, hfp.zero (by simpa using hc126)⟩ ⟨rfl, rfl, rfl, rfl, rfl, rfl, rfl, rfl, trivial⟩
                | exact AQ.meet (_, _, _) ⟨hst, hrh, hfp.five (by simpa using hc129)⟩ ⟨rfl, rfl, rfl, rfl, rfl, rfl, rfl, rfl, trivial⟩
                | exact AQ.meet (_, _, _) ⟨hst, hrh, (hfp.eight (by simpa using hc126) (by simpa using hc129)).2⟩ ⟨rfl, rfl, rfl, rfl, rfl, rfl, rfl, rfl, trivial⟩
            · have hcb126 := hc126
              try simp only [decide_eq_true_eq, decide_eq_false_iff_not] at hc126
              refine CW.seq ?_
              -- region 27
              refine CW.region ?_
              refine RW.op1 rfl (runs_move rfl) ?_
              refine RW.op1 rfl (runs_eqI rfl rfl) ?_
              refine RW.done ?_
              refine AQ.next ?_
              refine CW.cond rfl (fun hc129 => ?_) (fun hc129 => ?_)
              · have hcb129 := hc129
                try simp only [decide_eq_true_eq, decide_eq_false_iff_not] at hc129
                -- region 28
                refine CW.region ?_
                refine RW.op1 rfl (runs_move rfl) ?_
                refine RW.op1 rfl (runs_assign rfl) ?_
                refine RW.done ?_
                first
                  | exact AQ.meet (_, _, _) ⟨hst, hrN, hfp.zero (by simpa using hc126)⟩ ⟨rfl, rfl, rfl, rfl, rfl, rfl, rfl, rfl, trivial⟩
                  | exact AQ.meet (_, _, _) ⟨hst, hrh, hfp.five (by simpa using hc129)⟩ ⟨rfl, rfl, rfl, rfl, rfl, rfl, rfl, rfl, trivial⟩
                  | exact AQ.meet (_, _, _) ⟨hst, hrh, (hfp.eight (by simpa using hc126) (by simpa using hc129)).2⟩ ⟨rfl, rfl, rfl, rfl, rfl, rfl, rfl, rfl, trivial⟩
              · have hcb129 := hc129
                try simp only [decide_eq_true_eq, decide_eq_false_iff_not] at hc129
                refine CW.seq ?_
                -- region 29
                refine CW.region ?_
                refine RW.op1 rfl (runs_move rfl) ?_
                refine RW.op1 rfl (runs_neI rfl rfl) ?_
                refine RW.done ?_
                refine AQ.next ?_
                refine CW.cond rfl (fun hc => absurd hc (by rw [(hfp.eight (by simpa using hc126) (by simpa using hc129)).1]; decide)) (fun hc => ?_)
                refine CW.skip ?_
                first
                  | exact AQ.meet (_, _, _) ⟨hst, hrN, hfp.zero (by simpa using hc126)⟩ ⟨rfl, rfl, rfl, rfl, rfl, rfl, rfl, rfl, trivial⟩
                  | exact AQ.meet (_, _, _) ⟨hst, hrh, hfp.five (by simpa using hc129)⟩ ⟨rfl, rfl, rfl, rfl, rfl, rfl, rfl, rfl, trivial⟩
                  | exact AQ.meet (_, _, _) ⟨hst, hrh, (hfp.eight (by simpa using hc126) (by simpa using hc129)).2⟩ ⟨rfl, rfl, rfl, rfl, rfl, rfl, rfl, rfl, trivial⟩
          · clear hst hrh hrN hfp
            rintro ⟨bsV, vV, vsV⟩ w ⟨hst, hrV, hcp⟩
            dsimp only at hst hrV hcp ⊢
            refine AQ.next ?_
            refine CW.seq ?_
            refine CW.seq ?_
            -- region 31
            refine CW.region ?_
            refine RW.op1 rfl (runs_move rfl) ?_
            refine RW.call rfl call28 rfl rfl (down_spec hdU (hst.perm List.perm_middle.symm)) ?_
            rintro e w ⟨rfl, hstn⟩
            clear hst
            have hst := hstn
            clear hstn
            replace hst := hst.perm List.perm_middle
            refine ⟨_, rfl, ?_⟩
            refine RW.op1 rfl (runs_not rfl) ?_
            refine RW.op1 rfl (runs_move rfl) ?_
            refine RW.split (t := 136) rfl (fun hb136 => ?_) (fun hb136 => ?_)
            · have hb136p := hb136
              try simp only [decide_eq_true_eq, decide_eq_false_iff_not] at hb136p
              refine RW.on_guard rfl rfl rfl rfl hb136 ?_
              refine RW.op1 rfl (runs_move rfl) ?_
              refine RW.on_guard rfl rfl rfl rfl hb136 ?_
              refine RW.op1 rfl (runs_move rfl) ?_
              refine RW.on_guard rfl rfl rfl rfl hb136 ?_
              refine RW.op1 rfl (RdL.indexAddr Try.underlying22 ti3 (by decide) rfl rfl hl0 (by omega)) ?_
              refine RW.on_guard rfl rfl rfl rfl hb136 ?_
              first
                | refine RW.op1 rfl (runs_load1 sc3 rfl (hst.cell_imm (RdI.at (by assumption) (by omega) (by omega)))) ?_
                | refine RW.op1 rfl (runs_load1 sc3 rfl (hst.cell_own (k := 0) rfl rfl)) ?_
                | refine RW.op1 rfl (runs_load1 sc3 rfl (hst.cell_own (k := 1) rfl rfl)) ?_
                | refine RW.op1 rfl (runs_load1 sc3 rfl (hst.cell_own (k := 2) rfl rfl)) ?_
              refine RW.on_guard rfl rfl rfl rfl hb136 ?_
              refine RW.call rfl call8 rfl rfl (within_spec hst (v := iat ls (k : Int)) (n := 3) ho0 (by unfold i64ok; decide)) ?_
              rintro e w ⟨rfl, hstn⟩
              clear hst
              have hst := hstn
              clear hstn
              refine ⟨_, rfl, ?_⟩
              refine RW.on_guard rfl rfl rfl rfl hb136 ?_
              refine RW.op1 rfl (runs_gtr rfl rfl) ?_
              refine RW.op1 rfl (runs_pick_true rfl hb136 rfl) ?_
              refine RW.done ?_
              refine AQ.next ?_
              refine CW.cond rfl (fun hc143 => ?_) (fun hc143 => ?_)
              · have hcb143 := hc143
                try simp only [decide_eq_true_eq, decide_eq_false_iff_not] at hc143
                skip
                refine CW.seq ?_
                -- region 32
                refine CW.region ?_
                refine RW.op1 rfl (runs_move rfl) ?_
                refine RW.call rfl call17 rfl rfl (limit_spec hdU (hst.perm List.perm_middle.symm) (-1) (by unfold i64ok; decide)) ?_
                rintro e w ⟨rfl, LdV, hstn, hdV⟩
                clear hst
                have hst := hstn
                clear hstn
                replace hst := hst.perm List.perm_middle
                rw [if_neg (by decide)] at hdV
                obtain ⟨hliV, hbdV⟩ := hcp.lv (by simpa using hb136)
                replace hliV := hliV.limit (-1)
                refine ⟨_, rfl, ?_⟩
                refine RW.done ?_
                refine AQ.next ?_
                refine CW.exit ?_
                refine AQ.past_exit ?_
                refine AQ.block_hit ?_
                refine AQ.next ?_
                -- region 8
                refine CW.region ?_
                refine RW.op1 rfl (runs_move rfl) ?_
                refine RW.op1 rfl (runs_add rfl rfl (by omega)) ?_
                refine RW.op1 rfl (runs_assign rfl) ?_
                refine RW.done ?_
                exact AQ.again (x := ((I, Ld, S, lb, G, bss, vh, vs), k)) ((_, LdV, _, lb, GU, bsV, vV, vsV), k + 2) ⟨⟨hle, hst, hdV, ⟨⟨hliV.on, rfl⟩, hliV, hbdV.mono (by omega)⟩, hrV, hl0, hm0, hk0⟩, by dsimp only; omega⟩ ⟨rfl, rfl, rfl, rfl, rfl, rfl, rfl, rfl, trivial⟩ (by dsimp only; omega)
              · have hcb143 := hc143
                try simp only [decide_eq_true_eq, decide_eq_false_iff_not] at hc143
                skip
                refine CW.skip ?_
                refine AQ.next ?_
                refine CW.seq ?_
                -- region 33
                refine CW.region ?_
                refine RW.op1 rfl (runs_move rfl) ?_
                refine RW.op1 rfl (runs_move rfl) ?_
                refine RW.op1 rfl (runs_move rfl) ?_
                refine RW.call rfl call27 rfl rfl (keeps_spec hst hk0 hks hkl (k : Int) (by unfold i64ok; omega)) ?_
                rintro e w ⟨I20, vK, kk, hI20, rfl, hstn, hkk⟩
                clear hst
                have hst := hstn
                clear hstn
                replace hrV := hrV.mono hI20
                replace hl0 := hl0.mono hI20
                replace hm0 := hm0.mono hI20
                replace hk0 := hk0.mono hI20
                replace hle := hle.trans hI20
                refine ⟨_, rfl, ?_⟩
                refine RW.call rfl call26 rfl rfl (crash_spec hdU (hst.perm List.perm_middle.symm) hkk) ?_
                rintro e w ⟨LdC, rfl, hstn, hdC⟩
                clear hst
                have hst := hstn
                clear hstn
                obtain ⟨sC, aC, nC, hdiC, hbdC⟩ := hcp.cr kk
                replace hst := hst.sub (List.Sublist.append_left (List.sublist_cons_self _ L) LdC)
                refine ⟨_, rfl, ?_⟩
                refine RW.done ?_
                refine AQ.next ?_
                refine CW.seq ?_
                refine CW.seq ?_
                -- region 34
                refine CW.region ?_
                refine RW.op1 rfl (runs_assign rfl) ?_
                refine RW.done ?_
                refine AQ.next ?_
                refine CW.block ?_
                -- loop 3
                refine CW.loop (Nat × Imm × Own × DS × Slot) (fun x w => I.le x.2.1 ∧ St w0 w x.2.1 (x.2.2.1 ++ L) ∧ DiskO (.pointer (some a1)) x.2.2.2.1 x.2.2.1 ∧ (Up x.2.2.2.1 ∧ x.2.2.2.1.pend = [] ∧ DI x.2.2.2.1.secs x.2.2.2.2 bsV aC nC ∧ BD x.2.2.2.2 nC bsV (3 + 10 * k + 2 + x.1)) ∧ RdR x.2.1 vV vsV bsV ∧ (RdI x.2.1 vl ls ∧ RdI x.2.1 vm ms ∧ RdI x.2.1 vk ks) ∧ x.1 ≤ 3) (fun x => [(0, vl), (1, vm), (2, vk), (7, .pointer (some a1)), (8, vV), (12, .int .i64 (k : Nat)), (18, .int .i64 (x.1 : Nat))]) (fun x => 10 - x.1) ⟨(0, _, LdC, _, sC), ⟨hle, hst, hdC, ⟨crash_up _ _, rfl, hdiC, hbdC⟩, hrV, ⟨hl0, hm0, hk0⟩, Nat.zero_le _⟩, ⟨rfl, rfl, rfl, rfl, rfl, rfl, rfl, trivial⟩⟩ ?_
                clear hle hst hdC hdiC hbdC hrV hl0 hm0 hk0
                rintro ⟨j, IJ, LdJ, SJ, sJ⟩ w ⟨hle, hst, hdJ, ⟨huJ, hpJ, hdiJ, hbdJ⟩, hrV, ⟨hl0, hm0, hk0⟩, hj⟩
                dsimp only at hle hst hdJ huJ hpJ hdiJ hbdJ hrV hl0 hm0 hk0 hj ⊢
                have hbn1 := hbdJ.1
                have hbn2 := hbdJ.2.1
                refine CW.seq ?_
                refine CW.seq ?_
                -- region 35
                refine CW.region ?_
                refine RW.op1 rfl (runs_move rfl) ?_
                refine RW.op1 rfl (runs_move rfl) ?_
                refine RW.op1 rfl (runs_move rfl) ?_
                refine RW.op1 rfl (RdL.indexAddr Try.underlying22 ti3 (by decide) rfl rfl hl0 (by omega)) ?_
                first
                  | refine RW.op1 rfl (runs_load1 sc3 rfl (hst.cell_imm (RdI.at (by assumption) (by omega) (by omega)))) ?_
                  | refine RW.op1 rfl (runs_load1 sc3 rfl (hst.cell_own (k := 0) rfl rfl)) ?_
                  | refine RW.op1 rfl (runs_load1 sc3 rfl (hst.cell_own (k := 1) rfl rfl)) ?_
                  | refine RW.op1 rfl (runs_load1 sc3 rfl (hst.cell_own (k := 2) rfl rfl)) ?_
                refine RW.op1 rfl (runs_quo rfl rfl (by decide)) ?_
                refine RW.call rfl call8 rfl rfl (within_spec hst (v := IntKind.i64.wrap ((iat ls (k : Int)).tdiv 16)) (n := 4) (wrap_ok _) (by unfold i64ok; decide)) ?_
                rintro e w ⟨rfl, hstn⟩
                clear hst
                have hst := hstn
                clear hstn
                have hw16 := within_range (IntKind.i64.wrap ((iat ls (k : Int)).tdiv 16)) 4
                refine ⟨_, rfl, ?_⟩
                refine RW.op1 rfl (runs_lss rfl rfl) ?_
                refine RW.done ?_
                refine AQ.next ?_
                refine CW.cond rfl (fun hc158 => ?_) (fun hc158 => ?_)
                · have hcb158 := hc158
                  try simp only [decide_eq_true_eq, decide_eq_false_iff_not] at hc158
                  refine CW.skip ?_
                  refine AQ.next ?_
                  refine CW.seq ?_
                  refine CW.block ?_
                  refine CW.seq ?_
                  -- region 37
                  refine CW.region ?_
                  refine RW.op1 rfl (runs_move rfl) ?_
                  refine RW.op1 rfl (runs_move rfl) ?_
                  refine RW.op1 rfl (runs_move rfl) ?_
                  refine RW.op1 rfl (runs_add rfl rfl (by omega)) ?_
                  refine RW.op1 rfl (RdL.indexAddr Try.underlying22 ti3 (by decide) rfl rfl hl0 (by omega)) ?_
                  first
                    | refine RW.op1 rfl (runs_load1 sc3 rfl (hst.cell_imm (RdI.at (by assumption) (by omega) (by omega)))) ?_
                    | refine RW.op1 rfl (runs_load1 sc3 rfl (hst.cell_own (k := 0) rfl rfl)) ?_
                    | refine RW.op1 rfl (runs_load1 sc3 rfl (hst.cell_own (k := 1) rfl rfl)) ?_
                    | refine RW.op1 rfl (runs_load1 sc3 rfl (hst.cell_own (k := 2) rfl rfl)) ?_
                  refine RW.op1 rfl (runs_move rfl) ?_
                  refine RW.op1 rfl (runs_add rfl rfl (by omega)) ?_
                  refine RW.op1 rfl (runs_quo rfl rfl (by omega)) ?_
                  refine RW.call rfl call8 rfl rfl (within_spec hst (v := IntKind.i64.wrap ((iat ls ((k : Int) + 1)).tdiv ((j : Int) + 1))) (n := 5) (wrap_ok _) (by unfold i64ok; decide)) ?_
                  rintro e w ⟨rfl, hstn⟩
                  clear hst
                  have hst := hstn
                  clear hstn
                  have hw5 := within_range (IntKind.i64.wrap ((iat ls ((k : Int) + 1)).tdiv ((j : Int) + 1))) 5
                  generalize within (IntKind.i64.wrap ((iat ls ((k : Int) + 1)).tdiv ((j : Int) + 1))) 5 = x5 at *
                  refine ⟨_, rfl, ?_⟩
                  refine RW.call rfl call17 rfl rfl (limit_spec hdJ hst x5 (by unfold i64ok; omega)) ?_
                  rintro e w ⟨rfl, LdL, hstn, hdL⟩
                  clear hst
                  have hst := hstn
                  clear hstn
                  refine ⟨_, rfl, ?_⟩
                  refine RW.done ?_
                  refine AQ.next ?_
                  refine CW.seq ?_
                  refine CW.seq ?_
                  -- region 38
                  refine CW.region ?_
                  refine RW.op1 rfl (runs_move rfl) ?_
                  refine RW.call rfl call11 rfl rfl (open_any hdL hst huJ.1 hpJ hdiJ (by omega)) ?_
                  rintro e w ⟨I25, LdO, LoO, xO, yO, SO, eO, sO, hI25, rfl, hstn, hdO, heO, hcrO, hsO⟩
                  clear hst
                  have hst := hstn
                  clear hstn
                  replace hrV := hrV.mono hI25
                  replace hl0 := hl0.mono hI25
                  replace hm0 := hm0.mono hI25
                  replace hk0 := hk0.mono hI25
                  replace hle := hle.trans hI25
                  refine ⟨_, rfl, ?_⟩
                  refine RW.op1 rfl (runs_move rfl) ?_
                  refine RW.op1 rfl (runs_extract rfl rfl) ?_
                  refine RW.op1 rfl (runs_extract rfl rfl) ?_
                  refine RW.op1 rfl (runs_extract rfl rfl) ?_
                  refine RW.op1 rfl (runs_assign rfl) ?_
                  refine RW.op1 rfl (runs_assign rfl) ?_
                  refine RW.op1 rfl (runs_assign rfl) ?_
                  refine RW.done ?_
                  refine AQ.next ?_
                  refine CW.seq ?_
                  -- region 39
                  refine CW.region ?_
                  refine RW.op1 rfl (runs_move rfl) ?_
                  refine RW.op1 rfl (runs_neI rfl rfl) ?_
                  refine RW.op1 rfl (runs_move rfl) ?_
                  refine RW.split (t := 180) rfl (fun hb180 => ?_) (fun hb180 => ?_)
                  · have hb180p := hb180
                    try simp only [decide_eq_true_eq, decide_eq_false_iff_not] at hb180p
                    obtain rfl : eO = 8 := by omega
                    refine RW.on_guard rfl rfl rfl rfl hb180 ?_
                    refine RW.op1 rfl (runs_move rfl) ?_
                    refine RW.on_guard rfl rfl rfl rfl hb180 ?_
                    refine RW.op1 rfl (runs_neI rfl rfl) ?_
                    refine RW.op1 rfl (runs_pick_true rfl hb180 rfl) ?_
                    refine RW.done ?_
                    refine AQ.next ?_
                    refine CW.cond rfl (fun hc => absurd hc (by decide)) (fun hc => ?_)
                    refine CW.skip ?_
                    refine AQ.next ?_
                    -- region 41
                    refine CW.region ?_
                    refine RW.op1 rfl (runs_move rfl) ?_
                    refine RW.op1 rfl (runs_move rfl) ?_
                    refine RW.op1 rfl (runs_move rfl) ?_
                    refine RW.op1 rfl (runs_move rfl) ?_
                    refine RW.op1 rfl (runs_add rfl rfl (by omega)) ?_
                    refine RW.call rfl call27 rfl rfl (keeps_spec hst hk0 hks hkl ((k : Int) + (j : Int)) (by unfold i64ok; omega)) ?_
                    rintro e w ⟨I26, vK, kk2, hI26, rfl, hstn, hkk⟩
                    clear hst
                    have hst := hstn
                    clear hstn
                    replace hrV := hrV.mono hI26
                    replace hl0 := hl0.mono hI26
                    replace hm0 := hm0.mono hI26
                    replace hk0 := hk0.mono hI26
                    replace hle := hle.trans hI26
                    refine ⟨_, rfl, ?_⟩
                    refine RW.call rfl call26 rfl rfl (crash_spec hdO (hst.perm (List.perm_append_comm_assoc _ _ _)) hkk) ?_
                    rintro e w ⟨LdP, rfl, hstn, hdP⟩
                    clear hst
                    have hst := hstn
                    clear hstn
                    replace hst := hst.sub (List.Sublist.append_left (List.sublist_append_right LoO L) LdP)
                    refine ⟨_, rfl, ?_⟩
                    refine RW.done ?_
                    refine AQ.block_normal ?_
                    refine AQ.next ?_
                    -- region 36
                    refine CW.region ?_
                    refine RW.op1 rfl (runs_move rfl) ?_
                    refine RW.op1 rfl (runs_add rfl rfl (by omega)) ?_
                    refine RW.op1 rfl (runs_assign rfl) ?_
                    refine RW.done ?_
                    exact AQ.again (x := (j, IJ, LdJ, SJ, sJ)) (j + 1, _, LdP, _, sO) ⟨hle, hst, hdP, ⟨crash_up _ _, rfl, hcrO kk2, bd_up hbdJ hsO⟩, hrV, ⟨hl0, hm0, hk0⟩, by dsimp only; omega⟩ ⟨rfl, rfl, rfl, rfl, rfl, rfl, rfl, trivial⟩ (by dsimp only; omega)
                  · have hb180p := hb180
                    try simp only [decide_eq_true_eq, decide_eq_false_iff_not] at hb180p
                    obtain rfl : eO = 0 := by omega
                    refine RW.off_guard rfl rfl rfl rfl hb180 ?_
                    refine RW.off_guard rfl rfl rfl rfl hb180 ?_
                    refine RW.op1 rfl (runs_pick_false rfl hb180 rfl) ?_
                    refine RW.done ?_
                    refine AQ.next ?_
                    refine CW.cond rfl (fun hc => absurd hc (by decide)) (fun hc => ?_)
                    refine CW.skip ?_
                    refine AQ.next ?_
                    -- region 41
                    refine CW.region ?_
                    refine RW.op1 rfl (runs_move rfl) ?_
                    refine RW.op1 rfl (runs_move rfl) ?_
                    refine RW.op1 rfl (runs_move rfl) ?_
                    refine RW.op1 rfl (runs_move rfl) ?_
                    refine RW.op1 rfl (runs_add rfl rfl (by omega)) ?_
                    refine RW.call rfl call27 rfl rfl (keeps_spec hst hk0 hks hkl ((k : Int) + (j : Int)) (by unfold i64ok; omega)) ?_
                    rintro e w ⟨I28, vK, kk2, hI28, rfl, hstn, hkk⟩
                    clear hst
                    have hst := hstn
                    clear hstn
                    replace hrV := hrV.mono hI28
                    replace hl0 := hl0.mono hI28
                    replace hm0 := hm0.mono hI28
                    replace hk0 := hk0.mono hI28
                    replace hle := hle.trans hI28
                    refine ⟨_, rfl, ?_⟩
                    refine RW.call rfl call26 rfl rfl (crash_spec hdO (hst.perm (List.perm_append_comm_assoc _ _ _)) hkk) ?_
                    rintro e w ⟨LdP, rfl, hstn, hdP⟩
                    clear hst
                    have hst := hstn
                    clear hstn
                    replace hst := hst.sub (List.Sublist.append_left (List.sublist_append_right LoO L) LdP)
                    refine ⟨_, rfl, ?_⟩
                    refine RW.done ?_
                    refine AQ.block_normal ?_
                    refine AQ.next ?_
                    -- region 36
                    refine CW.region ?_
                    refine RW.op1 rfl (runs_move rfl) ?_
                    refine RW.op1 rfl (runs_add rfl rfl (by omega)) ?_
                    refine RW.op1 rfl (runs_assign rfl) ?_
                    refine RW.done ?_
                    exact AQ.again (x := (j, IJ, LdJ, SJ, sJ)) (j + 1, _, LdP, _, sO) ⟨hle, hst, hdP, ⟨crash_up _ _, rfl, hcrO kk2, bd_up hbdJ hsO⟩, hrV, ⟨hl0, hm0, hk0⟩, by dsimp only; omega⟩ ⟨rfl, rfl, rfl, rfl, rfl, rfl, rfl, trivial⟩ (by dsimp only; omega)
                · have hcb158 := hc158
                  try simp only [decide_eq_true_eq, decide_eq_false_iff_not] at hc158
                  refine CW.exit ?_
                  refine AQ.past_exit ?_
                  refine AQ.past_exit ?_
                  refine AQ.block_hit ?_
                  refine AQ.next ?_
                  refine CW.seq ?_
                  -- region 42
                  refine CW.region ?_
                  refine RW.op1 rfl (runs_assign rfl) ?_
                  refine RW.done ?_
                  refine AQ.next ?_
                  refine CW.seq ?_
                  refine CW.seq ?_
                  -- region 43
                  refine CW.region ?_
                  refine RW.op1 rfl (runs_move rfl) ?_
                  refine RW.call rfl call11 rfl rfl (open_up hdJ hst huJ hpJ hdiJ (by omega)) ?_
                  rintro e w ⟨I30, LdE, lbE, yE, vsE, SE, hI30, rfl, hstn, hdE, hrE, hliE, huE⟩
                  clear hst
                  have hst := hstn
                  clear hstn
                  replace hrV := hrV.mono hI30
                  replace hl0 := hl0.mono hI30
                  replace hm0 := hm0.mono hI30
                  replace hk0 := hk0.mono hI30
                  replace hle := hle.trans hI30
                  refine ⟨_, rfl, ?_⟩
                  refine RW.op1 rfl (runs_move rfl) ?_
                  refine RW.op1 rfl (runs_extract rfl rfl) ?_
                  refine RW.op1 rfl (runs_extract rfl rfl) ?_
                  refine RW.op1 rfl (runs_extract rfl rfl) ?_
                  refine RW.op1 rfl (runs_assign rfl) ?_
                  refine RW.op1 rfl (runs_assign rfl) ?_
                  refine RW.op1 rfl (runs_assign rfl) ?_
                  refine RW.done ?_
                  refine AQ.next ?_
                  refine CW.seq ?_
                  -- region 44
                  refine CW.region ?_
                  refine RW.op1 rfl (runs_move rfl) ?_
                  refine RW.op1 rfl (runs_neI rfl rfl) ?_
                  refine RW.op1 rfl (runs_move rfl) ?_
                  have hk199 := (show decide ((0 : Int) ≠ 0) = false by decide)
                  refine RW.on_guard rfl rfl rfl rfl hk199 ?_
                  refine RW.op1 rfl (runs_move rfl) ?_
                  refine RW.on_guard rfl rfl rfl rfl hk199 ?_
                  refine RW.op1 rfl (runs_move rfl) ?_
                  refine RW.on_guard rfl rfl rfl rfl hk199 ?_
                  refine RW.call rfl call25 rfl rfl (same4_spec hst hrE hrV (fun x hx => by have := hbdJ.2.2.2.2 x hx; omega) (by have := hbdJ.2.2.2.1; omega)) ?_
                  rintro e w ⟨rfl, hstn⟩
                  clear hst
                  have hst := hstn
                  clear hstn
                  refine ⟨_, rfl, ?_⟩
                  refine RW.on_guard rfl rfl rfl rfl hk199 ?_
                  refine RW.op1 rfl (runs_not rfl) ?_
                  refine RW.on_guard rfl rfl rfl rfl hk199 ?_
                  refine RW.op1 rfl (runs_move rfl) ?_
                  have hk204 := (show (!decide (bsV = bsV)) = false by simp)
                  refine RW.off_guard rfl rfl rfl rfl hk204 ?_
                  refine RW.off_guard rfl rfl rfl rfl hk204 ?_
                  refine RW.off_guard rfl rfl rfl rfl hk204 ?_
                  refine RW.off_guard rfl rfl rfl rfl hk204 ?_
                  refine RW.on_guard rfl rfl rfl rfl hk199 ?_
                  refine RW.op1 rfl (runs_pick_false rfl hk204 rfl) ?_
                  refine RW.op1 rfl (runs_pick_false rfl hk199 rfl) ?_
                  refine RW.done ?_
                  refine AQ.next ?_
                  refine CW.cond rfl (fun hc => absurd hc (by decide)) (fun hc => ?_)
                  refine CW.skip ?_
                  refine AQ.next ?_
                  -- region 46
                  refine CW.region ?_
                  refine RW.op1 rfl (runs_move rfl) ?_
                  refine RW.op1 rfl (runs_assign rfl) ?_
                  refine RW.done ?_
                  refine AQ.block_normal ?_
                  refine AQ.next ?_
                  -- region 8
                  refine CW.region ?_
                  refine RW.op1 rfl (runs_move rfl) ?_
                  refine RW.op1 rfl (runs_add rfl rfl (by omega)) ?_
                  refine RW.op1 rfl (runs_assign rfl) ?_
                  refine RW.done ?_
                  exact AQ.again (x := ((I, Ld, S, lb, G, bss, vh, vs), k)) ((_, LdE, SE, lbE, ⟨sJ.up, aC, nC, 0⟩, bsV, yE, vsE), k + 2) ⟨⟨hle, hst, hdE, ⟨huE, hliE, bd_open hbdJ (by omega)⟩, hrE, hl0, hm0, hk0⟩, by dsimp only; omega⟩ ⟨rfl, rfl, rfl, rfl, rfl, rfl, rfl, rfl, trivial⟩ (by dsimp only; omega)
            · have hb136p := hb136
              try simp only [decide_eq_true_eq, decide_eq_false_iff_not] at hb136p
              refine RW.off_guard rfl rfl rfl rfl hb136 ?_
              refine RW.off_guard rfl rfl rfl rfl hb136 ?_
              refine RW.off_guard rfl rfl rfl rfl hb136 ?_
              refine RW.off_guard rfl rfl rfl rfl hb136 ?_
              refine RW.off_guard rfl rfl rfl rfl hb136 ?_
              refine RW.off_guard rfl rfl rfl rfl hb136 ?_
              refine RW.op1 rfl (runs_pick_false rfl hb136 rfl) ?_
              refine RW.done ?_
              refine AQ.next ?_
              skip
              refine CW.cond_false rfl ?_
              refine CW.skip ?_
              refine AQ.next ?_
              refine CW.seq ?_
              -- region 33
              refine CW.region ?_
              refine RW.op1 rfl (runs_move rfl) ?_
              refine RW.op1 rfl (runs_move rfl) ?_
              refine RW.op1 rfl (runs_move rfl) ?_
              refine RW.call rfl call27 rfl rfl (keeps_spec hst hk0 hks hkl (k : Int) (by unfold i64ok; omega)) ?_
              rintro e w ⟨I32, vK, kk, hI32, rfl, hstn, hkk⟩
              clear hst
              have hst := hstn
              clear hstn
              replace hrV := hrV.mono hI32
              replace hl0 := hl0.mono hI32
              replace hm0 := hm0.mono hI32
              replace hk0 := hk0.mono hI32
              replace hle := hle.trans hI32
              refine ⟨_, rfl, ?_⟩
              refine RW.call rfl call26 rfl rfl (crash_spec hdU (hst.perm List.perm_middle.symm) hkk) ?_
              rintro e w ⟨LdC, rfl, hstn, hdC⟩
              clear hst
              have hst := hstn
              clear hstn
              obtain ⟨sC, aC, nC, hdiC, hbdC⟩ := hcp.cr kk
              replace hst := hst.sub (List.Sublist.append_left (List.sublist_cons_self _ L) LdC)
              refine ⟨_, rfl, ?_⟩
              refine RW.done ?_
              refine AQ.next ?_
              refine CW.seq ?_
              refine CW.seq ?_
              -- region 34
              refine CW.region ?_
              refine RW.op1 rfl (runs_assign rfl) ?_
              refine RW.done ?_
              refine AQ.next ?_
              refine CW.block ?_
              -- loop 4
              refine CW.loop (Nat × Imm × Own × DS × Slot) (fun x w => I.le x.2.1 ∧ St w0 w x.2.1 (x.2.2.1 ++ L) ∧ DiskO (.pointer (some a1)) x.2.2.2.1 x.2.2.1 ∧ (Up x.2.2.2.1 ∧ x.2.2.2.1.pend = [] ∧ DI x.2.2.2.1.secs x.2.2.2.2 bsV aC nC ∧ BD x.2.2.2.2 nC bsV (3 + 10 * k + 2 + x.1)) ∧ RdR x.2.1 vV vsV bsV ∧ (RdI x.2.1 vl ls ∧ RdI x.2.1 vm ms ∧ RdI x.2.1 vk ks) ∧ x.1 ≤ 3) (fun x => [(0, vl), (1, vm), (2, vk), (7, .pointer (some a1)), (8, vV), (12, .int .i64 (k : Nat)), (18, .int .i64 (x.1 : Nat))]) (fun x => 10 - x.1) ⟨(0, _, LdC, _, sC), ⟨hle, hst, hdC, ⟨crash_up _ _, rfl, hdiC, hbdC⟩, hrV, ⟨hl0, hm0, hk0⟩, Nat.zero_le _⟩, ⟨rfl, rfl, rfl, rfl, rfl, rfl, rfl, trivial⟩⟩ ?_
              clear hle hst hdC hdiC hbdC hrV hl0 hm0 hk0
              rintro ⟨j, IJ, LdJ, SJ, sJ⟩ w ⟨hle, hst, hdJ, ⟨huJ, hpJ, hdiJ, hbdJ⟩, hrV, ⟨hl0, hm0, hk0⟩, hj⟩
              dsimp only at hle hst hdJ huJ hpJ hdiJ hbdJ hrV hl0 hm0 hk0 hj ⊢
              have hbn1 := hbdJ.1
              have hbn2 := hbdJ.2.1
              refine CW.seq ?_
              refine CW.seq ?_
              -- region 35
              refine CW.region ?_
              refine RW.op1 rfl (runs_move rfl) ?_
              refine RW.op1 rfl (runs_move rfl) ?_
              refine RW.op1 rfl (runs_move rfl) ?_
              refine RW.op1 rfl (RdL.indexAddr Try.underlying22 ti3 (by decide) rfl rfl hl0 (by omega)) ?_
              first
                | refine RW.op1 rfl (runs_load1 sc3 rfl (hst.cell_imm (RdI.at (by assumption) (by omega) (by omega)))) ?_
                | refine RW.op1 rfl (runs_load1 sc3 rfl (hst.cell_own (k := 0) rfl rfl)) ?_
                | refine RW.op1 rfl (runs_load1 sc3 rfl (hst.cell_own (k := 1) rfl rfl)) ?_
                | refine RW.op1 rfl (runs_load1 sc3 rfl (hst.cell_own (k := 2) rfl rfl)) ?_
              refine RW.op1 rfl (runs_quo rfl rfl (by decide)) ?_
              refine RW.call rfl call8 rfl rfl (within_spec hst (v := IntKind.i64.wrap ((iat ls (k : Int)).tdiv 16)) (n := 4) (wrap_ok _) (by unfold i64ok; decide)) ?_
              rintro e w ⟨rfl, hstn⟩
              clear hst
              have hst := hstn
              clear hstn
              have hw16 := within_range (IntKind.i64.wrap ((iat ls (k : Int)).tdiv 16)) 4
              refine ⟨_, rfl, ?_⟩
              refine RW.op1 rfl (runs_lss rfl rfl) ?_
              refine RW.done ?_
              refine AQ.next ?_
              refine CW.cond rfl (fun hc158 => ?_) (fun hc158 => ?_)
              · have hcb158 := hc158
                try simp only [decide_eq_true_eq, decide_eq_false_iff_not] at hc158
                refine CW.skip ?_
                refine AQ.next ?_
                refine CW.seq ?_
                refine CW.block ?_
                refine CW.seq ?_
                -- region 37
                refine CW.region ?_
                refine RW.op1 rfl (runs_move rfl) ?_
                refine RW.op1 rfl (runs_move rfl) ?_
                refine RW.op1 rfl (runs_move rfl) ?_
                refine RW.op1 rfl (runs_add rfl rfl (by omega)) ?_
                refine RW.op1 rfl (RdL.indexAddr Try.underlying22 ti3 (by decide) rfl rfl hl0 (by omega)) ?_
                first
                  | refine RW.op1 rfl (runs_load1 sc3 rfl (hst.cell_imm (RdI.at (by assumption) (by omega) (by omega)))) ?_
                  | refine RW.op1 rfl (runs_load1 sc3 rfl (hst.cell_own (k := 0) rfl rfl)) ?_
                  | refine RW.op1 rfl (runs_load1 sc3 rfl (hst.cell_own (k := 1) rfl rfl)) ?_
                  | refine RW.op1 rfl (runs_load1 sc3 rfl (hst.cell_own (k := 2) rfl rfl)) ?_
                refine RW.op1 rfl (runs_move rfl) ?_
                refine RW.op1 rfl (runs_add rfl rfl (by omega)) ?_
                refine RW.op1 rfl (runs_quo rfl rfl (by omega)) ?_
                refine RW.call rfl call8 rfl rfl (within_spec hst (v := IntKind.i64.wrap ((iat ls ((k : Int) + 1)).tdiv ((j : Int) + 1))) (n := 5) (wrap_ok _) (by unfold i64ok; decide)) ?_
                rintro e w ⟨rfl, hstn⟩
                clear hst
                have hst := hstn
                clear hstn
                have hw5 := within_range (IntKind.i64.wrap ((iat ls ((k : Int) + 1)).tdiv ((j : Int) + 1))) 5
                generalize within (IntKind.i64.wrap ((iat ls ((k : Int) + 1)).tdiv ((j : Int) + 1))) 5 = x5 at *
                refine ⟨_, rfl, ?_⟩
                refine RW.call rfl call17 rfl rfl (limit_spec hdJ hst x5 (by unfold i64ok; omega)) ?_
                rintro e w ⟨rfl, LdL, hstn, hdL⟩
                clear hst
                have hst := hstn
                clear hstn
                refine ⟨_, rfl, ?_⟩
                refine RW.done ?_
                refine AQ.next ?_
                refine CW.seq ?_
                refine CW.seq ?_
                -- region 38
                refine CW.region ?_
                refine RW.op1 rfl (runs_move rfl) ?_
                refine RW.call rfl call11 rfl rfl (open_any hdL hst huJ.1 hpJ hdiJ (by omega)) ?_
                rintro e w ⟨I37, LdO, LoO, xO, yO, SO, eO, sO, hI37, rfl, hstn, hdO, heO, hcrO, hsO⟩
                clear hst
                have hst := hstn
                clear hstn
                replace hrV := hrV.mono hI37
                replace hl0 := hl0.mono hI37
                replace hm0 := hm0.mono hI37
                replace hk0 := hk0.mono hI37
                replace hle := hle.trans hI37
                refine ⟨_, rfl, ?_⟩
                refine RW.op1 rfl (runs_move rfl) ?_
                refine RW.op1 rfl (runs_extract rfl rfl) ?_
                refine RW.op1 rfl (runs_extract rfl rfl) ?_
                refine RW.op1 rfl (runs_extract rfl rfl) ?_
                refine RW.op1 rfl (runs_assign rfl) ?_
                refine RW.op1 rfl (runs_assign rfl) ?_
                refine RW.op1 rfl (runs_assign rfl) ?_
                refine RW.done ?_
                refine AQ.next ?_
                refine CW.seq ?_
                -- region 39
                refine CW.region ?_
                refine RW.op1 rfl (runs_move rfl) ?_
                refine RW.op1 rfl (runs_neI rfl rfl) ?_
                refine RW.op1 rfl (runs_move rfl) ?_
                refine RW.split (t := 180) rfl (fun hb180 => ?_) (fun hb180 => ?_)
                · have hb180p := hb180
                  try simp only [decide_eq_true_eq, decide_eq_false_iff_not] at hb180p
                  obtain rfl : eO = 8 := by omega
                  refine RW.on_guard rfl rfl rfl rfl hb180 ?_
                  refine RW.op1 rfl (runs_move rfl) ?_
                  refine RW.on_guard rfl rfl rfl rfl hb180 ?_
                  refine RW.op1 rfl (runs_neI rfl rfl) ?_
                  refine RW.op1 rfl (runs_pick_true rfl hb180 rfl) ?_
                  refine RW.done ?_
                  refine AQ.next ?_
                  refine CW.cond rfl (fun hc => absurd hc (by decide)) (fun hc => ?_)
                  refine CW.skip ?_
                  refine AQ.next ?_
                  -- region 41
                  refine CW.region ?_
                  refine RW.op1 rfl (runs_move rfl) ?_
                  refine RW.op1 rfl (runs_move rfl) ?_
                  refine RW.op1 rfl (runs_move rfl) ?_
                  refine RW.op1 rfl (runs_move rfl) ?_
                  refine RW.op1 rfl (runs_add rfl rfl (by omega)) ?_
                  refine RW.call rfl call27 rfl rfl (keeps_spec hst hk0 hks hkl ((k : Int) + (j : Int)) (by unfold i64ok; omega)) ?_
                  rintro e w ⟨I38, vK, kk2, hI38, rfl, hstn, hkk⟩
                  clear hst
                  have hst := hstn
                  clear hstn
                  replace hrV := hrV.mono hI38
                  replace hl0 := hl0.mono hI38
                  replace hm0 := hm0.mono hI38
                  replace hk0 := hk0.mono hI38
                  replace hle := hle.trans hI38
                  refine ⟨_, rfl, ?_⟩
                  refine RW.call rfl call26 rfl rfl (crash_spec hdO (hst.perm (List.perm_append_comm_assoc _ _ _)) hkk) ?_
                  rintro e w ⟨LdP, rfl, hstn, hdP⟩
                  clear hst
                  have hst := hstn
                  clear hstn
                  replace hst := hst.sub (List.Sublist.append_left (List.sublist_append_right LoO L) LdP)
                  refine ⟨_, rfl, ?_⟩
                  refine RW.done ?_
                  refine AQ.block_normal ?_
                  refine AQ.next ?_
                  -- region 36
                  refine CW.region ?_
                  refine RW.op1 rfl (runs_move rfl) ?_
                  refine RW.op1 rfl (runs_add rfl rfl (by omega)) ?_
                  refine RW.op1 rfl (runs_assign rfl) ?_
                  refine RW.done ?_
                  exact AQ.again (x := (j, IJ, LdJ, SJ, sJ)) (j + 1, _, LdP, _, sO) ⟨hle, hst, hdP, ⟨crash_up _ _, rfl, hcrO kk2, bd_up hbdJ hsO⟩, hrV, ⟨hl0, hm0, hk0⟩, by dsimp only; omega⟩ ⟨rfl, rfl, rfl, rfl, rfl, rfl, rfl, trivial⟩ (by dsimp only; omega)
                · have hb180p := hb180
                  try simp only [decide_eq_true_eq, decide_eq_false_iff_not] at hb180p
                  obtain rfl : eO = 0 := by omega
                  refine RW.off_guard rfl rfl rfl rfl hb180 ?_
                  refine RW.off_guard rfl rfl rfl rfl hb180 ?_
                  refine RW.op1 rfl (runs_pick_false rfl hb180 rfl) ?_
                  refine RW.done ?_
                  refine AQ.next ?_
                  refine CW.cond rfl (fun hc => absurd hc (by decide)) (fun hc => ?_)
                  refine CW.skip ?_
                  refine AQ.next ?_
                  -- region 41
                  refine CW.region ?_
                  refine RW.op1 rfl (runs_move rfl) ?_
                  refine RW.op1 rfl (runs_move rfl) ?_
                  refine RW.op1 rfl (runs_move rfl) ?_
                  refine RW.op1 rfl (runs_move rfl) ?_
                  refine RW.op1 rfl (runs_add rfl rfl (by omega)) ?_
                  refine RW.call rfl call27 rfl rfl (keeps_spec hst hk0 hks hkl ((k : Int) + (j : Int)) (by unfold i64ok; omega)) ?_
                  rintro e w ⟨I40, vK, kk2, hI40, rfl, hstn, hkk⟩
                  clear hst
                  have hst := hstn
                  clear hstn
                  replace hrV := hrV.mono hI40
                  replace hl0 := hl0.mono hI40
                  replace hm0 := hm0.mono hI40
                  replace hk0 := hk0.mono hI40
                  replace hle := hle.trans hI40
                  refine ⟨_, rfl, ?_⟩
                  refine RW.call rfl call26 rfl rfl (crash_spec hdO (hst.perm (List.perm_append_comm_assoc _ _ _)) hkk) ?_
                  rintro e w ⟨LdP, rfl, hstn, hdP⟩
                  clear hst
                  have hst := hstn
                  clear hstn
                  replace hst := hst.sub (List.Sublist.append_left (List.sublist_append_right LoO L) LdP)
                  refine ⟨_, rfl, ?_⟩
                  refine RW.done ?_
                  refine AQ.block_normal ?_
                  refine AQ.next ?_
                  -- region 36
                  refine CW.region ?_
                  refine RW.op1 rfl (runs_move rfl) ?_
                  refine RW.op1 rfl (runs_add rfl rfl (by omega)) ?_
                  refine RW.op1 rfl (runs_assign rfl) ?_
                  refine RW.done ?_
                  exact AQ.again (x := (j, IJ, LdJ, SJ, sJ)) (j + 1, _, LdP, _, sO) ⟨hle, hst, hdP, ⟨crash_up _ _, rfl, hcrO kk2, bd_up hbdJ hsO⟩, hrV, ⟨hl0, hm0, hk0⟩, by dsimp only; omega⟩ ⟨rfl, rfl, rfl, rfl, rfl, rfl, rfl, trivial⟩ (by dsimp only; omega)
              · have hcb158 := hc158
                try simp only [decide_eq_true_eq, decide_eq_false_iff_not] at hc158
                refine CW.exit ?_
                refine AQ.past_exit ?_
                refine AQ.past_exit ?_
                refine AQ.block_hit ?_
                refine AQ.next ?_
                refine CW.seq ?_
                -- region 42
                refine CW.region ?_
                refine RW.op1 rfl (runs_assign rfl) ?_
                refine RW.done ?_
                refine AQ.next ?_
                refine CW.seq ?_
                refine CW.seq ?_
                -- region 43
                refine CW.region ?_
                refine RW.op1 rfl (runs_move rfl) ?_
                refine RW.call rfl call11 rfl rfl (open_up hdJ hst huJ hpJ hdiJ (by omega)) ?_
                rintro e w ⟨I42, LdE, lbE, yE, vsE, SE, hI42, rfl, hstn, hdE, hrE, hliE, huE⟩
                clear hst
                have hst := hstn
                clear hstn
                replace hrV := hrV.mono hI42
                replace hl0 := hl0.mono hI42
                replace hm0 := hm0.mono hI42
                replace hk0 := hk0.mono hI42
                replace hle := hle.trans hI42
                refine ⟨_, rfl, ?_⟩
                refine RW.op1 rfl (runs_move rfl) ?_
                refine RW.op1 rfl (runs_extract rfl rfl) ?_
                refine RW.op1 rfl (runs_extract rfl rfl) ?_
                refine RW.op1 rfl (runs_extract rfl rfl) ?_
                refine RW.op1 rfl (runs_assign rfl) ?_
                refine RW.op1 rfl (runs_assign rfl) ?_
                refine RW.op1 rfl (runs_assign rfl) ?_
                refine RW.done ?_
                refine AQ.next ?_
                refine CW.seq ?_
                -- region 44
                refine CW.region ?_
                refine RW.op1 rfl (runs_move rfl) ?_
                refine RW.op1 rfl (runs_neI rfl rfl) ?_
                refine RW.op1 rfl (runs_move rfl) ?_
                have hk199 := (show decide ((0 : Int) ≠ 0) = false by decide)
                refine RW.on_guard rfl rfl rfl rfl hk199 ?_
                refine RW.op1 rfl (runs_move rfl) ?_
                refine RW.on_guard rfl rfl rfl rfl hk199 ?_
                refine RW.op1 rfl (runs_move rfl) ?_
                refine RW.on_guard rfl rfl rfl rfl hk199 ?_
                refine RW.call rfl call25 rfl rfl (same4_spec hst hrE hrV (fun x hx => by have := hbdJ.2.2.2.2 x hx; omega) (by have := hbdJ.2.2.2.1; omega)) ?_
                rintro e w ⟨rfl, hstn⟩
                clear hst
                have hst := hstn
                clear hstn
                refine ⟨_, rfl, ?_⟩
                refine RW.on_guard rfl rfl rfl rfl hk199 ?_
                refine RW.op1 rfl (runs_not rfl) ?_
                refine RW.on_guard rfl rfl rfl rfl hk199 ?_
                refine RW.op1 rfl (runs_move rfl) ?_
                have hk204 := (show (!decide (bsV = bsV)) = false by simp)
                refine RW.off_guard rfl rfl rfl rfl hk204 ?_
                refine RW.off_guard rfl rfl rfl rfl hk204 ?_
                refine RW.off_guard rfl rfl rfl rfl hk204 ?_
                refine RW.off_guard rfl rfl rfl rfl hk204 ?_
                refine RW.on_guard rfl rfl rfl rfl hk199 ?_
                refine RW.op1 rfl (runs_pick_false rfl hk204 rfl) ?_
                refine RW.op1 rfl (runs_pick_false rfl hk199 rfl) ?_
                refine RW.done ?_
                refine AQ.next ?_
                refine CW.cond rfl (fun hc => absurd hc (by decide)) (fun hc => ?_)
                refine CW.skip ?_
                refine AQ.next ?_
                -- region 46
                refine CW.region ?_
                refine RW.op1 rfl (runs_move rfl) ?_
                refine RW.op1 rfl (runs_assign rfl) ?_
                refine RW.done ?_
                refine AQ.block_normal ?_
                refine AQ.next ?_
                -- region 8
                refine CW.region ?_
                refine RW.op1 rfl (runs_move rfl) ?_
                refine RW.op1 rfl (runs_add rfl rfl (by omega)) ?_
                refine RW.op1 rfl (runs_assign rfl) ?_
                refine RW.done ?_
                exact AQ.again (x := ((I, Ld, S, lb, G, bss, vh, vs), k)) ((_, LdE, SE, lbE, ⟨sJ.up, aC, nC, 0⟩, bsV, yE, vsE), k + 2) ⟨⟨hle, hst, hdE, ⟨huE, hliE, bd_open hbdJ (by omega)⟩, hrE, hl0, hm0, hk0⟩, by dsimp only; omega⟩ ⟨rfl, rfl, rfl, rfl, rfl, rfl, rfl, rfl, trivial⟩ (by dsimp only; omega)
    · have hcb45 := hc45
      try simp only [decide_eq_true_eq, decide_eq_false_iff_not] at hc45
      skip
      refine CW.exit ?_
      refine AQ.past_exit ?_
      refine AQ.past_exit ?_
      refine AQ.block_hit ?_
      refine AQ.next ?_
      refine CW.seq ?_
      -- region 47
      refine CW.region ?_
      refine RW.call rfl call19 rfl rfl (wakes04_spec hst) ?_
      rintro e w ⟨rfl, I44, hI44, hstn⟩
      clear hst
      have hst := hstn
      clear hstn
      replace hl0 := hl0.mono hI44
      replace hm0 := hm0.mono hI44
      replace hk0 := hk0.mono hI44
      replace hrh := hrh.mono hI44
      replace hle := hle.trans hI44
      refine ⟨_, rfl, ?_⟩
      refine RW.op1 rfl (runs_assign rfl) ?_
      refine RW.done ?_
      refine AQ.next ?_
      refine CW.ret ?_
      refine AQ.ret1 rfl rfl ?_
      exact ⟨rfl, _, hle, hst.sub ((List.sublist_append_right _ _).trans (List.sublist_cons_self _ _))⟩
end Go.Proofs.YthocicjjighbnaaX
