/- A log's records found, a log opened: what these come to. -/
import Derived.Test.YthocicjjighbnaaT
import Derived.Test.YthocicjjighbnaaG1
import Derived.Test.YthocicjjighbnaaXK
namespace Go.Proofs.YthocicjjighbnaaX
set_option linter.unusedVariables false
set_option linter.unusedSimpArgs false
open Go Go.RowKit Go.Proofs

theorem openR_rng (s : List UInt8) : 0 ≤ (openR s).e ∧ (openR s).e < 65536 ∧ 0 ≤ (openR s).q ∧ (openR s).q < 16777216 := by
  have h0 := bat_lt s 0
  have h1 := bat_lt s 1
  have h2 := bat_lt s 2
  have h3 := bat_lt s 3
  have h4 := bat_lt s 4
  unfold openR epochOf seqOf
  split
  · dsimp only
    omega
  · dsimp only
    omega
theorem frr_ok {S : DS} (hok : DOk S) {at_ end_ me mq next : Int} {b : List UInt8} (h : FrR S at_ end_ (me, mq, b, next, 0)) : 0 ≤ at_ ∧ at_ < next ∧ next ≤ end_ ∧ end_ ≤ S.secs.length ∧ 0 ≤ mq ∧ mq < 16777216 ∧ 0 ≤ me ∧ me < 65536 ∧ b.length ≤ 8160 := by
  unfold FrR at h
  split at h
  · simp at h
  · rename_i hr
    have h0 : 0 ≤ at_ ∧ at_ < end_ ∧ end_ ≤ S.secs.length := by omega
    obtain ⟨ge, gq, gb, parts, ger, hg, h⟩ := h
    have hl := gather_len hok h0 hg
    unfold readEnd at h
    split at h
    · rename_i he
      simp only [Prod.mk.injEq] at h
      exact absurd h.2.2.2.2.symm he
    · rename_i he
      have he0 : ger = 0 := Decidable.of_not_not he
      split at h
      · simp at h
      · simp only [Prod.mk.injEq] at h
        obtain ⟨rfl, rfl, rfl, rfl, _⟩ := h
        rcases hg with ⟨_, _, _, _, _, h⟩ | ⟨_, ⟨n, h1, h2, h3, h4, h5, h6, h7, h8⟩ | ⟨k, _, _, _, _, _, _, _, h8⟩⟩
        · omega
        · have hb := (h3 (n - 1) (by omega)).1
          have hq := openR_rng (readR S (at_ + ((0 : Nat) : Int)))
          rw [show openR (readR S (at_ + ((0 : Nat) : Int))) = oAt S at_ 0 from rfl, ← h4, ← h5] at hq
          rw [List.length_drop]
          omega
        · omega
/-- The records that are found from a place on. -/
inductive Recs (S : DS) (end_ e : Int) : Int → Int → Int → List (List UInt8) → Int → Int → Prop
  | stop {least at_ nx me mq next er : Int} {b : List UInt8} : FrR S at_ end_ (me, mq, b, next, er) → (er ≠ 0 ∨ mq ≠ nx ∨ me < least ∨ e < me) → Recs S end_ e least at_ nx [] at_ nx
  | step {least at_ nx me next a n : Int} {b : List UInt8} {bs : List (List UInt8)} : FrR S at_ end_ (me, nx, b, next, 0) → least ≤ me → me ≤ e → Recs S end_ e me next (nx + 1) bs a n → Recs S end_ e least at_ nx (b :: bs) a n
def LG.to (G : LG) (a n : Int) : LG := { G with at_ := a, nx := n }
theorem perm_out {α : Type} (x : α) (A B C : List α) : (x :: (A ++ (B ++ C))).Perm (B ++ (x :: (A ++ C))) := by
  refine List.Perm.trans ?_ List.perm_middle.symm
  refine List.Perm.cons x ?_
  rw [← List.append_assoc, ← List.append_assoc]
  exact List.perm_append_comm.append_right C
theorem perm_out2 {α : Type} (x y : α) (A B C : List α) : (x :: y :: (A ++ (B ++ C))).Perm (B ++ (x :: y :: (A ++ C))) := by
  refine List.Perm.trans ((perm_out y A B C).cons x) ?_
  exact List.perm_middle.symm
set_option maxRecDepth 100000 in
set_option maxHeartbeats 1000000 in
theorem records_spec {w0 w : World} {I : Imm} {L Ld : Own} {d : Value} {S : DS} {lb : Nat} {G : LG} (hd : DiskO d S Ld) (hst : St w0 w I ((lb, .cells (logV d G).toArray 69) :: (Ld ++ L))) (hh : 0 ≤ G.s.h ∧ G.s.h ≤ 1) (ha : 0 ≤ G.at_ ∧ G.at_ ≤ 600) (hn : 0 ≤ G.nx ∧ G.nx ≤ 16777216) :
    Calls Try.prog 35 #[.pointer (some ⟨lb, 0, none⟩)] w fun e w' => ∃ I' v' vs bs a n, Imm.le I I' ∧ e = .returned v' ∧ St w0 w' I' ((lb, .cells (logV d (G.to a n)).toArray 69) :: (Ld ++ L)) ∧ RdR I' v' vs bs ∧ Recs S (beginR G.s.h + 256) G.s.e G.s.b G.at_ G.nx bs a n := by
  have hok : DOk S := by obtain ⟨_, _, _, _, _, _, _, _, _, hok⟩ := hd; exact hok
  have hsl := hok.1
  have hbe : beginR G.s.h = 2 + G.s.h * 256 := rfl
  refine enter Try.func35 rfl (N := 82) rfl rfl ?_
  simp only [List.zipIdx_cons, List.zipIdx_nil, List.map_cons, List.map_nil, Nat.zero_add, Nat.reduceAdd]
  have hle := Imm.le.refl I
  refine CW.seq ?_
  -- region 0
  refine CW.region ?_
  refine RW.op1 rfl (runs_assign rfl) ?_
  refine RW.done ?_
  refine AQ.next ?_
  refine CW.seq ?_
  -- region 1
  refine CW.region ?_
  refine RW.op1 rfl (runs_assign rfl) ?_
  refine RW.done ?_
  refine AQ.next ?_
  refine CW.seq ?_
  -- region 2
  refine CW.region ?_
  refine RW.op1 rfl (runs_move rfl) ?_
  refine RW.op1 rfl (runs_nilCheck rfl) ?_
  first
    | refine RW.op1 rfl (runs_fieldAddr0 rfl Try.underlying69 rfl ti64 (by decide)) ?_
    | refine RW.op1 rfl (runs_fieldAddr rfl Try.underlying69 rfl ti64 (by decide)) ?_
  first
    | refine RW.op1 rfl (runs_fieldAddr0 rfl Try.underlying64 rfl ti3 (by decide)) ?_
    | refine RW.op1 rfl (runs_fieldAddr rfl Try.underlying64 rfl ti3 (by decide)) ?_
  first
    | refine RW.op1 rfl (runs_load1 sc3 rfl (hst.cell_own (k := 0) rfl rfl)) ?_
    | refine RW.op1 rfl (runs_load1 sc3 rfl (hst.cell_own (k := 1) rfl rfl)) ?_
    | refine RW.op1 rfl (runs_load1 sc3 rfl (hst.cell_own (k := 2) rfl rfl)) ?_
  refine RW.op1 rfl (runs_assign rfl) ?_
  refine RW.done ?_
  refine AQ.next ?_
  refine CW.block ?_
  -- loop 1
  refine CW.loop (List (List UInt8) × Int × Int × Int × Imm × Value × Own) (fun x w => I.le x.2.2.2.2.1 ∧ St w0 w x.2.2.2.2.1 ((lb, .cells (logV d (G.to x.2.2.1 x.2.2.2.1)).toArray 69) :: (x.2.2.2.2.2.2 ++ (Ld ++ L))) ∧ GrowR x.2.2.2.2.1 33 x.2.2.2.2.2.1 x.1 x.2.2.2.2.2.2 ∧ (∀ bs a n, Recs S (beginR G.s.h + 256) G.s.e x.2.1 x.2.2.1 x.2.2.2.1 bs a n → Recs S (beginR G.s.h + 256) G.s.e G.s.b G.at_ G.nx (x.1 ++ bs) a n) ∧ (0 ≤ x.2.2.1 ∧ x.2.2.1 ≤ 600 ∧ 0 ≤ x.2.2.2.1 ∧ x.2.2.2.1 ≤ 16777216 ∧ (x.1.length : Int) ≤ x.2.2.1)) (fun x => [(0, .pointer (some ⟨lb, 0, none⟩)), (3, x.2.2.2.2.2.1), (4, .int .i64 x.2.1)]) (fun x => (1000 - x.2.2.1).toNat) ⟨([], G.s.b, G.at_, G.nx, _, _, []), ⟨hle, hst, GrowR.nil _, fun bs a n h => h, ha.1, ha.2, hn.1, hn.2, by show ((0 : Nat) : Int) ≤ G.at_; omega⟩, ⟨rfl, rfl, rfl, trivial⟩⟩ ?_
  clear hle hst
  rintro ⟨done, least, at1, nx1, IK, vo, Lo⟩ w ⟨hle, hst, hgr, hrec, hb1⟩
  dsimp only at hle hst hgr hrec hb1 ⊢
  refine CW.block ?_
  refine CW.seq ?_
  -- region 3
  refine CW.cut (Imm × Value × List UInt8 × Int × Int × Int × Int × Nat) (fun y w => I.le y.1 ∧ St w0 w y.1 ((y.2.2.2.2.2.2.2, .cells #[.int .i64 y.2.2.2.1, .int .i64 y.2.2.2.2.1] 38) :: (lb, .cells (logV d (G.to at1 nx1)).toArray 69) :: (Lo ++ (Ld ++ L))) ∧ GrowR y.1 33 vo done Lo ∧ RdB y.1 y.2.1 y.2.2.1 ∧ FrR S at1 (beginR G.s.h + 256) (y.2.2.2.1, y.2.2.2.2.1, y.2.2.1, y.2.2.2.2.2.1, y.2.2.2.2.2.2.1)) (fun y => [(0, .pointer (some ⟨lb, 0, none⟩)), (3, vo), (4, .int .i64 least), (5, .pointer (some ⟨y.2.2.2.2.2.2.2, 0, none⟩)), (6, y.2.1), (7, .int .i64 y.2.2.2.2.2.1), (8, .int .i64 y.2.2.2.2.2.2.1)]) ?_ ?_
  · -- region 3
    refine CW.drawSt hst (.q 0 (.q 1 (.q 2 (.q 3 (.q 4 (.q 5 (.q 6 (.q 7 (.q 8 (.q 9 (.q 10 (.q 11 (.q 12 (.fork (.l 13 (.q 14 (.fork (.l 15 (.q 16 (.q 17 (.q 18 (.q 19 (.q 20 (.l 21 (.l 22 (.q 23 (.q 24 (.q 25 .nil))))))))))) (.l 21 (.l 15 (.q 16 (.q 17 (.q 18 (.q 19 (.q 20 (.l 22 (.q 23 (.q 24 (.q 25 .nil)))))))))))))) (.l 21 (.l 13 (.q 14 (.l 15 (.q 16 (.q 17 (.q 18 (.q 19 (.q 20 (.l 22 (.q 23 (.q 24 (.q 25 .nil))))))))))))))))))))))))))) follows (by kernel_rfl) (fun w hst => ?_)
    refine DRW.q rfl rfl (fun w' hF => runs_move rfl) ?_
    refine DRW.q rfl rfl (fun w' hF => runs_nilCheck rfl) ?_
    first
      | refine DRW.q rfl rfl (fun w' hF => runs_fieldAddr0 rfl Try.underlying69 rfl ti24 (by decide)) ?_
      | refine DRW.q rfl rfl (fun w' hF => runs_fieldAddr rfl Try.underlying69 rfl ti24 (by decide)) ?_
    first
      | refine DRW.q rfl rfl (FSt.load1_own sc24 rfl (k := 0) rfl rfl) ?_
      | refine DRW.q rfl rfl (FSt.load1_own sc24 rfl (k := 1) rfl rfl) ?_
      | refine DRW.q rfl rfl (FSt.load1_own sc24 rfl (k := 2) rfl rfl) ?_
    refine DRW.q rfl rfl (fun w' hF => runs_move rfl) ?_
    refine DRW.q rfl rfl (fun w' hF => runs_nilCheck rfl) ?_
    first
      | refine DRW.q rfl rfl (fun w' hF => runs_fieldAddr0 rfl Try.underlying69 rfl ti3 (by decide)) ?_
      | refine DRW.q rfl rfl (fun w' hF => runs_fieldAddr rfl Try.underlying69 rfl ti3 (by decide)) ?_
    first
      | refine DRW.q rfl rfl (FSt.load1_own sc3 rfl (k := 0) rfl rfl) ?_
      | refine DRW.q rfl rfl (FSt.load1_own sc3 rfl (k := 1) rfl rfl) ?_
      | refine DRW.q rfl rfl (FSt.load1_own sc3 rfl (k := 2) rfl rfl) ?_
    refine DRW.q rfl rfl (fun w' hF => runs_move rfl) ?_
    refine DRW.q rfl rfl (fun w' hF => runs_nilCheck rfl) ?_
    first
      | refine DRW.q rfl rfl (fun w' hF => runs_fieldAddr0 rfl Try.underlying69 rfl ti64 (by decide)) ?_
      | refine DRW.q rfl rfl (fun w' hF => runs_fieldAddr rfl Try.underlying69 rfl ti64 (by decide)) ?_
    first
      | refine DRW.q rfl rfl (fun w' hF => runs_fieldAddr0 rfl Try.underlying64 rfl ti3 (by decide)) ?_
      | refine DRW.q rfl rfl (fun w' hF => runs_fieldAddr rfl Try.underlying64 rfl ti3 (by decide)) ?_
    first
      | refine DRW.q rfl rfl (FSt.load1_own sc3 rfl (k := 0) rfl rfl) ?_
      | refine DRW.q rfl rfl (FSt.load1_own sc3 rfl (k := 1) rfl rfl) ?_
      | refine DRW.q rfl rfl (FSt.load1_own sc3 rfl (k := 2) rfl rfl) ?_
    refine DRW.fork ?_ ?_
    · refine DRW.call rfl rfl call34 rfl rfl (begin_spec hst G.s.h hh) ?_
      rintro e w ⟨rfl, hstn⟩
      clear hst
      have hst := hstn
      clear hstn
      refine ⟨_, rfl, FSt.of hst (Imm.le.refl _) (by first | exact (List.sublist_cons_self _ _).trans (List.sublist_append_right _ _) | exact List.Sublist.refl _ | exact List.sublist_cons_self _ _ | exact List.sublist_append_right _ _ | exact (List.sublist_cons_self _ _).trans (List.sublist_cons_self _ _) | exact (List.sublist_append_right _ _).trans (List.sublist_cons_self _ _) | simp), ?_⟩
      refine DRW.q rfl rfl (fun w' hF => runs_add rfl rfl (by omega)) ?_
      refine DRW.fork ?_ ?_
      · refine DRW.call rfl rfl call45 rfl rfl (fread_spec hd (hst.perm (perm_out _ Lo Ld L)) at1 (beginR G.s.h + 256)) ?_
        rintro e w ⟨I2, vR, me, mq, rb, nxt, er, hI2, rfl, hstn, hrb, hfr⟩
        clear hst
        have hst := hstn
        clear hstn
        replace hst := hst.perm (perm_out _ Lo Ld L).symm
        replace hgr := hgr.mono hI2
        replace hle := hle.trans hI2
        refine ⟨_, rfl, FSt.of hst hI2 (by first | exact (List.sublist_cons_self _ _).trans (List.sublist_append_right _ _) | exact List.Sublist.refl _ | exact List.sublist_cons_self _ _ | exact List.sublist_append_right _ _ | exact (List.sublist_cons_self _ _).trans (List.sublist_cons_self _ _) | exact (List.sublist_append_right _ _).trans (List.sublist_cons_self _ _) | simp), ?_⟩
        refine DRW.q rfl rfl (fun w' hF => runs_move rfl) ?_
        refine DRW.q rfl rfl (fun w' hF => runs_extract rfl rfl) ?_
        refine DRW.q rfl rfl (fun w' hF => runs_extract rfl rfl) ?_
        refine DRW.q rfl rfl (fun w' hF => runs_extract rfl rfl) ?_
        refine DRW.q rfl rfl (fun w' hF => runs_extract rfl rfl) ?_
        refine DRW.opE rfl rfl (runs_alloc ti38 hst) ?_
        rintro _ w ⟨b3, rfl, hstn⟩
        clear hst
        have hst := hstn
        clear hstn
        refine ⟨FSt.of hst hI2 (by first | exact (List.sublist_cons_self _ _).trans (List.sublist_append_right _ _) | exact List.Sublist.refl _ | exact List.sublist_cons_self _ _ | exact List.sublist_append_right _ _ | exact (List.sublist_cons_self _ _).trans (List.sublist_cons_self _ _) | exact (List.sublist_append_right _ _).trans (List.sublist_cons_self _ _) | simp), ?_⟩
        first
          | refine DRW.opE0 rfl (runs_storeW ti38 rfl rfl hst (k := 0) rfl rfl rfl (NoFz.zero _) rfl) ?_
          | refine DRW.opE0 rfl (runs_storeP ti38 rfl rfl hst (k := 0) rfl rfl rfl (NoFz.zero _) rfl) ?_
          | refine DRW.opE0 rfl (runs_storeW ti38 rfl rfl hst (k := 1) rfl rfl rfl (NoFz.zero _) rfl) ?_
          | refine DRW.opE0 rfl (runs_storeP ti38 rfl rfl hst (k := 1) rfl rfl rfl (NoFz.zero _) rfl) ?_
          | refine DRW.opE0 rfl (runs_storeW ti38 rfl rfl hst (k := 2) rfl rfl rfl (NoFz.zero _) rfl) ?_
          | refine DRW.opE0 rfl (runs_storeP ti38 rfl rfl hst (k := 2) rfl rfl rfl (NoFz.zero _) rfl) ?_
        rintro w hstn
        clear hst
        have hst := hstn
        clear hstn
        try simp only [List.set_cons_zero, List.set_cons_succ] at hst
        refine ⟨FSt.of hst hI2 (by first | exact (List.sublist_cons_self _ _).trans (List.sublist_append_right _ _) | exact List.Sublist.refl _ | exact List.sublist_cons_self _ _ | exact List.sublist_append_right _ _ | exact (List.sublist_cons_self _ _).trans (List.sublist_cons_self _ _) | exact (List.sublist_append_right _ _).trans (List.sublist_cons_self _ _) | simp), ?_⟩
        refine DRW.q rfl rfl (fun w' hF => runs_assign rfl) ?_
        refine DRW.q rfl rfl (fun w' hF => runs_assign rfl) ?_
        refine DRW.q rfl rfl (fun w' hF => runs_assign rfl) ?_
        refine DRW.done ?_
        exact AQ.meet (_, _, rb, me, mq, nxt, er, _) ⟨hle, hst, hgr, hrb, hfr⟩ ⟨rfl, rfl, rfl, rfl, rfl, rfl, rfl, trivial⟩
      refine DRW.opE rfl rfl (runs_alloc ti38 hst) ?_
      rintro _ w ⟨b5, rfl, hstn⟩
      clear hst
      have hst := hstn
      clear hstn
      refine ⟨FSt.of hst (Imm.le.refl _) (by first | exact (List.sublist_cons_self _ _).trans (List.sublist_append_right _ _) | exact List.Sublist.refl _ | exact List.sublist_cons_self _ _ | exact List.sublist_append_right _ _ | exact (List.sublist_cons_self _ _).trans (List.sublist_cons_self _ _) | exact (List.sublist_append_right _ _).trans (List.sublist_cons_self _ _) | simp), ?_⟩
      refine DRW.call rfl rfl call45 rfl rfl (fread_spec hd (hst.perm (perm_out2 _ _ Lo Ld L)) at1 (beginR G.s.h + 256)) ?_
      rintro e w ⟨I6, vR, me, mq, rb, nxt, er, hI6, rfl, hstn, hrb, hfr⟩
      clear hst
      have hst := hstn
      clear hstn
      replace hst := hst.perm (perm_out2 _ _ Lo Ld L).symm
      replace hgr := hgr.mono hI6
      replace hle := hle.trans hI6
      refine ⟨_, rfl, FSt.of hst hI6 (by first | exact (List.sublist_cons_self _ _).trans (List.sublist_append_right _ _) | exact List.Sublist.refl _ | exact List.sublist_cons_self _ _ | exact List.sublist_append_right _ _ | exact (List.sublist_cons_self _ _).trans (List.sublist_cons_self _ _) | exact (List.sublist_append_right _ _).trans (List.sublist_cons_self _ _) | simp), ?_⟩
      refine DRW.q rfl rfl (fun w' hF => runs_move rfl) ?_
      refine DRW.q rfl rfl (fun w' hF => runs_extract rfl rfl) ?_
      refine DRW.q rfl rfl (fun w' hF => runs_extract rfl rfl) ?_
      refine DRW.q rfl rfl (fun w' hF => runs_extract rfl rfl) ?_
      refine DRW.q rfl rfl (fun w' hF => runs_extract rfl rfl) ?_
      first
        | refine DRW.opE0 rfl (runs_storeW ti38 rfl rfl hst (k := 0) rfl rfl rfl (NoFz.zero _) rfl) ?_
        | refine DRW.opE0 rfl (runs_storeP ti38 rfl rfl hst (k := 0) rfl rfl rfl (NoFz.zero _) rfl) ?_
        | refine DRW.opE0 rfl (runs_storeW ti38 rfl rfl hst (k := 1) rfl rfl rfl (NoFz.zero _) rfl) ?_
        | refine DRW.opE0 rfl (runs_storeP ti38 rfl rfl hst (k := 1) rfl rfl rfl (NoFz.zero _) rfl) ?_
        | refine DRW.opE0 rfl (runs_storeW ti38 rfl rfl hst (k := 2) rfl rfl rfl (NoFz.zero _) rfl) ?_
        | refine DRW.opE0 rfl (runs_storeP ti38 rfl rfl hst (k := 2) rfl rfl rfl (NoFz.zero _) rfl) ?_
      rintro w hstn
      clear hst
      have hst := hstn
      clear hstn
      try simp only [List.set_cons_zero, List.set_cons_succ] at hst
      refine ⟨FSt.of hst hI6 (by first | exact (List.sublist_cons_self _ _).trans (List.sublist_append_right _ _) | exact List.Sublist.refl _ | exact List.sublist_cons_self _ _ | exact List.sublist_append_right _ _ | exact (List.sublist_cons_self _ _).trans (List.sublist_cons_self _ _) | exact (List.sublist_append_right _ _).trans (List.sublist_cons_self _ _) | simp), ?_⟩
      refine DRW.q rfl rfl (fun w' hF => runs_assign rfl) ?_
      refine DRW.q rfl rfl (fun w' hF => runs_assign rfl) ?_
      refine DRW.q rfl rfl (fun w' hF => runs_assign rfl) ?_
      refine DRW.done ?_
      exact AQ.meet (_, _, rb, me, mq, nxt, er, _) ⟨hle, hst, hgr, hrb, hfr⟩ ⟨rfl, rfl, rfl, rfl, rfl, rfl, rfl, trivial⟩
    refine DRW.opE rfl rfl (runs_alloc ti38 hst) ?_
    rintro _ w ⟨b8, rfl, hstn⟩
    clear hst
    have hst := hstn
    clear hstn
    refine ⟨FSt.of hst (Imm.le.refl _) (by first | exact (List.sublist_cons_self _ _).trans (List.sublist_append_right _ _) | exact List.Sublist.refl _ | exact List.sublist_cons_self _ _ | exact List.sublist_append_right _ _ | exact (List.sublist_cons_self _ _).trans (List.sublist_cons_self _ _) | exact (List.sublist_append_right _ _).trans (List.sublist_cons_self _ _) | simp), ?_⟩
    refine DRW.call rfl rfl call34 rfl rfl (begin_spec hst G.s.h hh) ?_
    rintro e w ⟨rfl, hstn⟩
    clear hst
    have hst := hstn
    clear hstn
    refine ⟨_, rfl, FSt.of hst (Imm.le.refl _) (by first | exact (List.sublist_cons_self _ _).trans (List.sublist_append_right _ _) | exact List.Sublist.refl _ | exact List.sublist_cons_self _ _ | exact List.sublist_append_right _ _ | exact (List.sublist_cons_self _ _).trans (List.sublist_cons_self _ _) | exact (List.sublist_append_right _ _).trans (List.sublist_cons_self _ _) | simp), ?_⟩
    refine DRW.q rfl rfl (fun w' hF => runs_add rfl rfl (by omega)) ?_
    refine DRW.call rfl rfl call45 rfl rfl (fread_spec hd (hst.perm (perm_out2 _ _ Lo Ld L)) at1 (beginR G.s.h + 256)) ?_
    rintro e w ⟨I10, vR, me, mq, rb, nxt, er, hI10, rfl, hstn, hrb, hfr⟩
    clear hst
    have hst := hstn
    clear hstn
    replace hst := hst.perm (perm_out2 _ _ Lo Ld L).symm
    replace hgr := hgr.mono hI10
    replace hle := hle.trans hI10
    refine ⟨_, rfl, FSt.of hst hI10 (by first | exact (List.sublist_cons_self _ _).trans (List.sublist_append_right _ _) | exact List.Sublist.refl _ | exact List.sublist_cons_self _ _ | exact List.sublist_append_right _ _ | exact (List.sublist_cons_self _ _).trans (List.sublist_cons_self _ _) | exact (List.sublist_append_right _ _).trans (List.sublist_cons_self _ _) | simp), ?_⟩
    refine DRW.q rfl rfl (fun w' hF => runs_move rfl) ?_
    refine DRW.q rfl rfl (fun w' hF => runs_extract rfl rfl) ?_
    refine DRW.q rfl rfl (fun w' hF => runs_extract rfl rfl) ?_
    refine DRW.q rfl rfl (fun w' hF => runs_extract rfl rfl) ?_
    refine DRW.q rfl rfl (fun w' hF => runs_extract rfl rfl) ?_
    first
      | refine DRW.opE0 rfl (runs_storeW ti38 rfl rfl hst (k := 0) rfl rfl rfl (NoFz.zero _) rfl) ?_
      | refine DRW.opE0 rfl (runs_storeP ti38 rfl rfl hst (k := 0) rfl rfl rfl (NoFz.zero _) rfl) ?_
      | refine DRW.opE0 rfl (runs_storeW ti38 rfl rfl hst (k := 1) rfl rfl rfl (NoFz.zero _) rfl) ?_
      | refine DRW.opE0 rfl (runs_storeP ti38 rfl rfl hst (k := 1) rfl rfl rfl (NoFz.zero _) rfl) ?_
      | refine DRW.opE0 rfl (runs_storeW ti38 rfl rfl hst (k := 2) rfl rfl rfl (NoFz.zero _) rfl) ?_
      | refine DRW.opE0 rfl (runs_storeP ti38 rfl rfl hst (k := 2) rfl rfl rfl (NoFz.zero _) rfl) ?_
    rintro w hstn
    clear hst
    have hst := hstn
    clear hstn
    try simp only [List.set_cons_zero, List.set_cons_succ] at hst
    refine ⟨FSt.of hst hI10 (by first | exact (List.sublist_cons_self _ _).trans (List.sublist_append_right _ _) | exact List.Sublist.refl _ | exact List.sublist_cons_self _ _ | exact List.sublist_append_right _ _ | exact (List.sublist_cons_self _ _).trans (List.sublist_cons_self _ _) | exact (List.sublist_append_right _ _).trans (List.sublist_cons_self _ _) | simp), ?_⟩
    refine DRW.q rfl rfl (fun w' hF => runs_assign rfl) ?_
    refine DRW.q rfl rfl (fun w' hF => runs_assign rfl) ?_
    refine DRW.q rfl rfl (fun w' hF => runs_assign rfl) ?_
    refine DRW.done ?_
    exact AQ.meet (_, _, rb, me, mq, nxt, er, _) ⟨hle, hst, hgr, hrb, hfr⟩ ⟨rfl, rfl, rfl, rfl, rfl, rfl, rfl, trivial⟩
  · clear hle hst hgr
    rintro ⟨IR, vR, rb, me, mq, nxt, er, bm⟩ w ⟨hle, hst, hgr, hrb, hfr⟩
    dsimp only at hle hst hgr hrb hfr ⊢
    have hto1 : (G.to at1 nx1).nx = nx1 := rfl
    have hto2 : (G.to at1 nx1).s.e = G.s.e := rfl
    refine AQ.next ?_
    refine CW.seq ?_
    refine CW.seq ?_
    -- region 4
    refine CW.drawSt hst (.q 0 (.q 1 (.q 2 (.q 3 (.q 4 (.q 5 (.q 6 (.q 7 (.q 8 (.q 9 (.q 10 (.q 11 (.q 12 (.q 13 (.q 14 (.q 15 (.q 16 (.q 17 (.q 18 (.q 19 (.q 20 (.q 21 (.q 22 (.q 23 (.q 24 (.q 25 (.q 26 .nil))))))))))))))))))))))))))) follows (by kernel_rfl) (fun w hst => ?_)
    refine DRW.q rfl rfl (fun w' hF => runs_move rfl) ?_
    refine DRW.q rfl rfl (fun w' hF => runs_neI rfl rfl) ?_
    refine DRW.q rfl rfl (fun w' hF => runs_move rfl) ?_
    refine DRW.split (t := 37) rfl (fun hb37 => ?_) (fun hb37 => ?_)
    · have hb37p := hb37
      try simp only [decide_eq_true_eq, decide_eq_false_iff_not] at hb37p
      refine DRW.q_off rfl rfl rfl rfl hb37 rfl ?_
      refine DRW.q_off rfl rfl rfl rfl hb37 rfl ?_
      refine DRW.q_off rfl rfl rfl rfl hb37 rfl ?_
      refine DRW.q_off rfl rfl rfl rfl hb37 rfl ?_
      refine DRW.q_off rfl rfl rfl rfl hb37 rfl ?_
      refine DRW.q_off rfl rfl rfl rfl hb37 rfl ?_
      refine DRW.q_off rfl rfl rfl rfl hb37 rfl ?_
      refine DRW.q rfl rfl (fun w' hF => runs_pick_true rfl hb37 rfl) ?_
      refine DRW.q rfl rfl (fun w' hF => runs_move rfl) ?_
      refine DRW.q_off rfl rfl rfl rfl rfl rfl ?_
      refine DRW.q_off rfl rfl rfl rfl rfl rfl ?_
      refine DRW.q_off rfl rfl rfl rfl rfl rfl ?_
      refine DRW.q_off rfl rfl rfl rfl rfl rfl ?_
      refine DRW.q rfl rfl (fun w' hF => runs_pick_true rfl rfl rfl) ?_
      refine DRW.q rfl rfl (fun w' hF => runs_move rfl) ?_
      refine DRW.q_off rfl rfl rfl rfl rfl rfl ?_
      refine DRW.q_off rfl rfl rfl rfl rfl rfl ?_
      refine DRW.q_off rfl rfl rfl rfl rfl rfl ?_
      refine DRW.q_off rfl rfl rfl rfl rfl rfl ?_
      refine DRW.q_off rfl rfl rfl rfl rfl rfl ?_
      refine DRW.q_off rfl rfl rfl rfl rfl rfl ?_
      refine DRW.q_off rfl rfl rfl rfl rfl rfl ?_
      refine DRW.q_off rfl rfl rfl rfl rfl rfl ?_
      refine DRW.q rfl rfl (fun w' hF => runs_pick_true rfl rfl rfl) ?_
      refine DRW.done ?_
      refine AQ.next ?_
      skip
      refine CW.cond_true rfl ?_
      refine CW.seq ?_
      -- region 5
      refine CW.region ?_
      refine RW.op1 rfl (runs_move rfl) ?_
      refine RW.op1 rfl (runs_assign rfl) ?_
      refine RW.done ?_
      refine AQ.next ?_
      refine CW.ret ?_
      refine AQ.past_ret ?_
      refine AQ.block_ret ?_
      refine AQ.past_ret ?_
      refine AQ.block_ret ?_
      refine AQ.ret1 rfl rfl ?_
      obtain ⟨I', vs, hI', hst', hr'⟩ := GrowR.freeze hgr ((hst.drop1).perm List.perm_middle.symm)
      exact ⟨I', _, vs, _, _, _, hle.trans hI', rfl, hst', hr', by
        have h := hrec [] at1 nx1 (.stop hfr (by omega))
        rwa [List.append_nil] at h⟩
    · have hb37p := hb37
      try simp only [decide_eq_true_eq, decide_eq_false_iff_not] at hb37p
      first
        | refine DRW.q_on rfl rfl rfl rfl hb37 rfl (fun w' hF => runs_fieldAddr0 rfl Try.underlying38 rfl ti3 (by decide)) ?_
        | refine DRW.q_on rfl rfl rfl rfl hb37 rfl (fun w' hF => runs_fieldAddr rfl Try.underlying38 rfl ti3 (by decide)) ?_
      first
        | refine DRW.q_on rfl rfl rfl rfl hb37 rfl (FSt.load1_own sc3 rfl (k := 0) rfl rfl) ?_
        | refine DRW.q_on rfl rfl rfl rfl hb37 rfl (FSt.load1_own sc3 rfl (k := 1) rfl rfl) ?_
        | refine DRW.q_on rfl rfl rfl rfl hb37 rfl (FSt.load1_own sc3 rfl (k := 2) rfl rfl) ?_
      refine DRW.q_on rfl rfl rfl rfl hb37 rfl (fun w' hF => runs_move rfl) ?_
      refine DRW.q_on rfl rfl rfl rfl hb37 rfl (fun w' hF => runs_nilCheck rfl) ?_
      first
        | refine DRW.q_on rfl rfl rfl rfl hb37 rfl (fun w' hF => runs_fieldAddr0 rfl Try.underlying69 rfl ti3 (by decide)) ?_
        | refine DRW.q_on rfl rfl rfl rfl hb37 rfl (fun w' hF => runs_fieldAddr rfl Try.underlying69 rfl ti3 (by decide)) ?_
      first
        | refine DRW.q_on rfl rfl rfl rfl hb37 rfl (FSt.load1_own sc3 rfl (k := 0) rfl rfl) ?_
        | refine DRW.q_on rfl rfl rfl rfl hb37 rfl (FSt.load1_own sc3 rfl (k := 1) rfl rfl) ?_
        | refine DRW.q_on rfl rfl rfl rfl hb37 rfl (FSt.load1_own sc3 rfl (k := 2) rfl rfl) ?_
      refine DRW.q_on rfl rfl rfl rfl hb37 rfl (fun w' hF => runs_neI rfl rfl) ?_
      refine DRW.q rfl rfl (fun w' hF => runs_pick_false rfl hb37 rfl) ?_
      refine DRW.q rfl rfl (fun w' hF => runs_move rfl) ?_
      refine DRW.split (t := 46) rfl (fun hb46 => ?_) (fun hb46 => ?_)
      · have hb46p := hb46
        try simp only [decide_eq_true_eq, decide_eq_false_iff_not] at hb46p
        refine DRW.q_off rfl rfl rfl rfl hb46 rfl ?_
        refine DRW.q_off rfl rfl rfl rfl hb46 rfl ?_
        refine DRW.q_off rfl rfl rfl rfl hb46 rfl ?_
        refine DRW.q_off rfl rfl rfl rfl hb46 rfl ?_
        refine DRW.q rfl rfl (fun w' hF => runs_pick_true rfl hb46 rfl) ?_
        refine DRW.q rfl rfl (fun w' hF => runs_move rfl) ?_
        refine DRW.q_off rfl rfl rfl rfl rfl rfl ?_
        refine DRW.q_off rfl rfl rfl rfl rfl rfl ?_
        refine DRW.q_off rfl rfl rfl rfl rfl rfl ?_
        refine DRW.q_off rfl rfl rfl rfl rfl rfl ?_
        refine DRW.q_off rfl rfl rfl rfl rfl rfl ?_
        refine DRW.q_off rfl rfl rfl rfl rfl rfl ?_
        refine DRW.q_off rfl rfl rfl rfl rfl rfl ?_
        refine DRW.q_off rfl rfl rfl rfl rfl rfl ?_
        refine DRW.q rfl rfl (fun w' hF => runs_pick_true rfl rfl rfl) ?_
        refine DRW.done ?_
        refine AQ.next ?_
        skip
        refine CW.cond_true rfl ?_
        refine CW.seq ?_
        -- region 5
        refine CW.region ?_
        refine RW.op1 rfl (runs_move rfl) ?_
        refine RW.op1 rfl (runs_assign rfl) ?_
        refine RW.done ?_
        refine AQ.next ?_
        refine CW.ret ?_
        refine AQ.past_ret ?_
        refine AQ.block_ret ?_
        refine AQ.past_ret ?_
        refine AQ.block_ret ?_
        refine AQ.ret1 rfl rfl ?_
        obtain ⟨I', vs, hI', hst', hr'⟩ := GrowR.freeze hgr ((hst.drop1).perm List.perm_middle.symm)
        exact ⟨I', _, vs, _, _, _, hle.trans hI', rfl, hst', hr', by
          have h := hrec [] at1 nx1 (.stop hfr (by omega))
          rwa [List.append_nil] at h⟩
      · have hb46p := hb46
        try simp only [decide_eq_true_eq, decide_eq_false_iff_not] at hb46p
        first
          | refine DRW.q_on rfl rfl rfl rfl hb46 rfl (fun w' hF => runs_fieldAddr0 rfl Try.underlying38 rfl ti3 (by decide)) ?_
          | refine DRW.q_on rfl rfl rfl rfl hb46 rfl (fun w' hF => runs_fieldAddr rfl Try.underlying38 rfl ti3 (by decide)) ?_
        first
          | refine DRW.q_on rfl rfl rfl rfl hb46 rfl (FSt.load1_own sc3 rfl (k := 0) rfl rfl) ?_
          | refine DRW.q_on rfl rfl rfl rfl hb46 rfl (FSt.load1_own sc3 rfl (k := 1) rfl rfl) ?_
          | refine DRW.q_on rfl rfl rfl rfl hb46 rfl (FSt.load1_own sc3 rfl (k := 2) rfl rfl) ?_
        refine DRW.q_on rfl rfl rfl rfl hb46 rfl (fun w' hF => runs_move rfl) ?_
        refine DRW.q_on rfl rfl rfl rfl hb46 rfl (fun w' hF => runs_lss rfl rfl) ?_
        refine DRW.q rfl rfl (fun w' hF => runs_pick_false rfl hb46 rfl) ?_
        refine DRW.q rfl rfl (fun w' hF => runs_move rfl) ?_
        refine DRW.split (t := 52) rfl (fun hb52 => ?_) (fun hb52 => ?_)
        · have hb52p := hb52
          try simp only [decide_eq_true_eq, decide_eq_false_iff_not] at hb52p
          refine DRW.q_off rfl rfl rfl rfl hb52 rfl ?_
          refine DRW.q_off rfl rfl rfl rfl hb52 rfl ?_
          refine DRW.q_off rfl rfl rfl rfl hb52 rfl ?_
          refine DRW.q_off rfl rfl rfl rfl hb52 rfl ?_
          refine DRW.q_off rfl rfl rfl rfl hb52 rfl ?_
          refine DRW.q_off rfl rfl rfl rfl hb52 rfl ?_
          refine DRW.q_off rfl rfl rfl rfl hb52 rfl ?_
          refine DRW.q_off rfl rfl rfl rfl hb52 rfl ?_
          refine DRW.q rfl rfl (fun w' hF => runs_pick_true rfl hb52 rfl) ?_
          refine DRW.done ?_
          refine AQ.next ?_
          skip
          refine CW.cond_true rfl ?_
          refine CW.seq ?_
          -- region 5
          refine CW.region ?_
          refine RW.op1 rfl (runs_move rfl) ?_
          refine RW.op1 rfl (runs_assign rfl) ?_
          refine RW.done ?_
          refine AQ.next ?_
          refine CW.ret ?_
          refine AQ.past_ret ?_
          refine AQ.block_ret ?_
          refine AQ.past_ret ?_
          refine AQ.block_ret ?_
          refine AQ.ret1 rfl rfl ?_
          obtain ⟨I', vs, hI', hst', hr'⟩ := GrowR.freeze hgr ((hst.drop1).perm List.perm_middle.symm)
          exact ⟨I', _, vs, _, _, _, hle.trans hI', rfl, hst', hr', by
            have h := hrec [] at1 nx1 (.stop hfr (by omega))
            rwa [List.append_nil] at h⟩
        · have hb52p := hb52
          try simp only [decide_eq_true_eq, decide_eq_false_iff_not] at hb52p
          first
            | refine DRW.q_on rfl rfl rfl rfl hb52 rfl (fun w' hF => runs_fieldAddr0 rfl Try.underlying38 rfl ti3 (by decide)) ?_
            | refine DRW.q_on rfl rfl rfl rfl hb52 rfl (fun w' hF => runs_fieldAddr rfl Try.underlying38 rfl ti3 (by decide)) ?_
          first
            | refine DRW.q_on rfl rfl rfl rfl hb52 rfl (FSt.load1_own sc3 rfl (k := 0) rfl rfl) ?_
            | refine DRW.q_on rfl rfl rfl rfl hb52 rfl (FSt.load1_own sc3 rfl (k := 1) rfl rfl) ?_
            | refine DRW.q_on rfl rfl rfl rfl hb52 rfl (FSt.load1_own sc3 rfl (k := 2) rfl rfl) ?_
          refine DRW.q_on rfl rfl rfl rfl hb52 rfl (fun w' hF => runs_move rfl) ?_
          refine DRW.q_on rfl rfl rfl rfl hb52 rfl (fun w' hF => runs_nilCheck rfl) ?_
          first
            | refine DRW.q_on rfl rfl rfl rfl hb52 rfl (fun w' hF => runs_fieldAddr0 rfl Try.underlying69 rfl ti64 (by decide)) ?_
            | refine DRW.q_on rfl rfl rfl rfl hb52 rfl (fun w' hF => runs_fieldAddr rfl Try.underlying69 rfl ti64 (by decide)) ?_
          first
            | refine DRW.q_on rfl rfl rfl rfl hb52 rfl (fun w' hF => runs_fieldAddr0 rfl Try.underlying64 rfl ti3 (by decide)) ?_
            | refine DRW.q_on rfl rfl rfl rfl hb52 rfl (fun w' hF => runs_fieldAddr rfl Try.underlying64 rfl ti3 (by decide)) ?_
          first
            | refine DRW.q_on rfl rfl rfl rfl hb52 rfl (FSt.load1_own sc3 rfl (k := 0) rfl rfl) ?_
            | refine DRW.q_on rfl rfl rfl rfl hb52 rfl (FSt.load1_own sc3 rfl (k := 1) rfl rfl) ?_
            | refine DRW.q_on rfl rfl rfl rfl hb52 rfl (FSt.load1_own sc3 rfl (k := 2) rfl rfl) ?_
          refine DRW.q_on rfl rfl rfl rfl hb52 rfl (fun w' hF => runs_gtr rfl rfl) ?_
          refine DRW.q rfl rfl (fun w' hF => runs_pick_false rfl hb52 rfl) ?_
          refine DRW.done ?_
          refine AQ.next ?_
          refine CW.cond rfl (fun hc61 => ?_) (fun hc61 => ?_)
          · have hcb61 := hc61
            try simp only [decide_eq_true_eq, decide_eq_false_iff_not] at hc61
            skip
            refine CW.seq ?_
            -- region 5
            refine CW.region ?_
            refine RW.op1 rfl (runs_move rfl) ?_
            refine RW.op1 rfl (runs_assign rfl) ?_
            refine RW.done ?_
            refine AQ.next ?_
            refine CW.ret ?_
            refine AQ.past_ret ?_
            refine AQ.block_ret ?_
            refine AQ.past_ret ?_
            refine AQ.block_ret ?_
            refine AQ.ret1 rfl rfl ?_
            obtain ⟨I', vs, hI', hst', hr'⟩ := GrowR.freeze hgr ((hst.drop1).perm List.perm_middle.symm)
            exact ⟨I', _, vs, _, _, _, hle.trans hI', rfl, hst', hr', by
              have h := hrec [] at1 nx1 (.stop hfr (by omega))
              rwa [List.append_nil] at h⟩
          · have hcb61 := hc61
            try simp only [decide_eq_true_eq, decide_eq_false_iff_not] at hc61
            have hin : er = 0 ∧ mq = nx1 ∧ least ≤ me ∧ me ≤ G.s.e := by omega
            obtain ⟨rfl, rfl, hlm, hme⟩ := hin
            have hfo := frr_ok hok hfr
            refine CW.skip ?_
            refine AQ.next ?_
            refine CW.seq ?_
            -- region 6
            refine CW.region ?_
            refine RW.op1 rfl (runs_move rfl) ?_
            refine RW.op1 rfl (runs_move rfl) ?_
            refine RW.call rfl call46 rfl rfl (clone_spec hst hrb (by omega)) ?_
            rintro e w ⟨I12, vC, hI12, rfl, hstn, hC⟩
            clear hst
            have hst := hstn
            clear hstn
            replace hgr := hgr.mono hI12
            replace hrb := hrb.mono hI12
            replace hle := hle.trans hI12
            refine ⟨_, rfl, ?_⟩
            refine RW.opE rfl (runs_lit1R (xs := [vC]) Try.underlying29 ti33 (by decide) rfl rfl rfl (by simpa using hC.one) hst) ?_
            rintro u13 w ⟨I13, hI13, hstn, h13⟩
            clear hst
            have hst := hstn
            clear hstn
            replace hgr := hgr.mono hI13
            replace hrb := hrb.mono hI13
            replace hC := hC.mono hI13
            replace hle := hle.trans hI13
            refine RW.opE rfl (runs_appendRow Try.underlying29 ti33 rfl rfl rfl (hst.perm (perm_two2 _ _ Lo (Ld ++ L))) hgr (by assumption) hC (by omega) (by unfold maxLen; omega)) ?_
            rintro u14 w ⟨Lv14, hstn, hg14⟩
            clear hst
            have hst := hstn
            clear hstn
            have hgr2 := hg14
            replace hst := hst.perm (perm_two2 _ _ Lv14 (Ld ++ L)).symm
            refine RW.op1 rfl (runs_assign rfl) ?_
            refine RW.done ?_
            refine AQ.next ?_
            -- region 7
            refine CW.draw (FSt w0 I13 ((bm, .cells #[.int .i64 me, .int .i64 mq] 38) :: (Lv14 ++ (Ld ++ L)))) (.q 0 (.q 1 (.q 2 (.q 3 (.q 4 (.q 5 (.q 6 (.q 7 (.l 8 (.q 9 (.q 10 (.q 11 (.q 12 (.l 13 (.q 14 (.q 15 (.l 16 .nil))))))))))))))))) follows (by kernel_rfl) ⟨_, Imm.le.refl _, hst.draw.sub ((List.sublist_cons_self _ _).cons_cons _)⟩ ?_
            replace hst := hst.draw
            refine DRW.q rfl rfl (fun w' hF => runs_move rfl) ?_
            refine DRW.q rfl rfl (fun w' hF => runs_move rfl) ?_
            first
              | refine DRW.q rfl rfl (fun w' hF => runs_fieldAddr0 rfl Try.underlying38 rfl ti3 (by decide)) ?_
              | refine DRW.q rfl rfl (fun w' hF => runs_fieldAddr rfl Try.underlying38 rfl ti3 (by decide)) ?_
            first
              | refine DRW.q rfl rfl (FSt.load1_own sc3 rfl (k := 0) rfl rfl) ?_
              | refine DRW.q rfl rfl (FSt.load1_own sc3 rfl (k := 1) rfl rfl) ?_
              | refine DRW.q rfl rfl (FSt.load1_own sc3 rfl (k := 2) rfl rfl) ?_
            refine DRW.q rfl rfl (fun w' hF => runs_move rfl) ?_
            refine DRW.q rfl rfl (fun w' hF => runs_move rfl) ?_
            refine DRW.q rfl rfl (fun w' hF => runs_nilCheck rfl) ?_
            first
              | refine DRW.q rfl rfl (fun w' hF => runs_fieldAddr0 rfl Try.underlying69 rfl ti3 (by decide)) ?_
              | refine DRW.q rfl rfl (fun w' hF => runs_fieldAddr rfl Try.underlying69 rfl ti3 (by decide)) ?_
            first
              | refine DRW.op1 rfl rfl (runs_load1 sc3 rfl (hst.cell_own (k := 0) rfl rfl)) (FSt.of hst (Imm.le.refl _) ((List.sublist_cons_self _ _).cons_cons _)) ?_
              | refine DRW.op1 rfl rfl (runs_load1 sc3 rfl (hst.cell_own (k := 1) rfl rfl)) (FSt.of hst (Imm.le.refl _) ((List.sublist_cons_self _ _).cons_cons _)) ?_
              | refine DRW.op1 rfl rfl (runs_load1 sc3 rfl (hst.cell_own (k := 2) rfl rfl)) (FSt.of hst (Imm.le.refl _) ((List.sublist_cons_self _ _).cons_cons _)) ?_
            refine DRW.q rfl rfl (fun w' hF => runs_add rfl rfl (by omega)) ?_
            refine DRW.q rfl rfl (fun w' hF => runs_assign rfl) ?_
            refine DRW.q rfl rfl (fun w' hF => runs_nilCheck rfl) ?_
            first
              | refine DRW.q rfl rfl (fun w' hF => runs_fieldAddr0 rfl Try.underlying69 rfl ti3 (by decide)) ?_
              | refine DRW.q rfl rfl (fun w' hF => runs_fieldAddr rfl Try.underlying69 rfl ti3 (by decide)) ?_
            first
              | refine DRW.opE0 rfl (runs_store1P ti3 rfl rfl hst (k := 0) rfl rfl (NoFz.zero _) rfl) ?_
              | refine DRW.opE0 rfl (runs_store1P ti3 rfl rfl hst (k := 1) rfl rfl (NoFz.zero _) rfl) ?_
              | refine DRW.opE0 rfl (runs_store1P ti3 rfl rfl hst (k := 2) rfl rfl (NoFz.zero _) rfl) ?_
            rintro w hstn
            clear hst
            have hst := hstn
            clear hstn
            try simp only [List.set_cons_zero, List.set_cons_succ] at hst
            refine ⟨FSt.of hst (Imm.le.refl _) ((List.sublist_cons_self _ _).cons_cons _), ?_⟩
            refine DRW.q rfl rfl (fun w' hF => runs_nilCheck rfl) ?_
            first
              | refine DRW.q rfl rfl (fun w' hF => runs_fieldAddr0 rfl Try.underlying69 rfl ti3 (by decide)) ?_
              | refine DRW.q rfl rfl (fun w' hF => runs_fieldAddr rfl Try.underlying69 rfl ti3 (by decide)) ?_
            first
              | refine DRW.opE0 rfl (runs_store1P ti3 rfl rfl hst (k := 0) rfl rfl (NoFz.zero _) rfl) ?_
              | refine DRW.opE0 rfl (runs_store1P ti3 rfl rfl hst (k := 1) rfl rfl (NoFz.zero _) rfl) ?_
              | refine DRW.opE0 rfl (runs_store1P ti3 rfl rfl hst (k := 2) rfl rfl (NoFz.zero _) rfl) ?_
            rintro w hstn
            clear hst
            have hst := hstn
            clear hstn
            try simp only [List.set_cons_zero, List.set_cons_succ] at hst
            refine ⟨FSt.of hst (Imm.le.refl _) ((List.sublist_cons_self _ _).cons_cons _), ?_⟩
            refine DRW.done ?_
            refine AQ.block_normal ?_
            exact AQ.again (x := (done, least, at1, mq, IK, vo, Lo)) (done ++ [rb], me, nxt, mq + 1, _, _, Lv14) ⟨hle, hst.drop1, hgr2, fun bs a n h => by
              rw [List.append_assoc]
              exact hrec _ a n (.step hfr hlm hme h), by dsimp only; rw [List.length_append]; simp only [List.length_cons, List.length_nil]; omega⟩ ⟨rfl, rfl, rfl, trivial⟩ (by dsimp only; omega)
/-- A slot that may stand on a disk. -/
def SlotOk (s : Slot) : Prop := 0 ≤ s.n ∧ s.n < 16777216 ∧ 0 ≤ s.e ∧ s.e < 65536 ∧ 0 ≤ s.h ∧ s.h ≤ 1 ∧ 0 ≤ s.f ∧ s.f < 16777216 ∧ 0 ≤ s.b ∧ s.b < 65536
theorem slotAt_ok {x : List UInt8} {s : Slot} (h : slotAt x = some s) : SlotOk s := by
  unfold slotAt at h
  split at h
  · rename_i hs
    simp only [isSlot, Bool.and_eq_true, decide_eq_true_eq] at hs
    obtain rfl : slotOf (openR x) = s := Option.some.inj h
    have h1 := openR_rng x
    have b0 := bat_lt (openR x).b 0
    have b1 := bat_lt (openR x).b 1
    have b2 := bat_lt (openR x).b 2
    have b3 := bat_lt (openR x).b 3
    have b4 := bat_lt (openR x).b 4
    have b5 := bat_lt (openR x).b 5
    unfold slotOf SlotOk
    dsimp only
    omega
  · cases h
theorem newest_ok {S : DS} (h : (newestR S).2 = 0) : SlotOk (newestR S).1 := by
  unfold newestR at h ⊢
  split
  · rename_i hd
    rw [if_pos hd] at h
    cases h
  · rename_i hd
    rw [if_neg hd] at h
    split
    · rename_i hl
      rw [if_pos hl] at h
      cases h
    · rename_i hl
      rw [if_neg hl] at h
      cases h0 : slotAt (readR S 0) with
      | none => cases h1 : slotAt (readR S 1) with
        | none => rw [h0, h1] at h; cases h
        | some y => exact slotAt_ok h1
      | some x => cases h1 : slotAt (readR S 1) with
        | none => exact slotAt_ok h0
        | some y =>
          show SlotOk (match (if y.n > x.n then some y else some x) with | some s => (s, (0 : Int)) | none => (slot0, 3)).1
          by_cases hc : y.n > x.n
          · rw [if_pos hc]; exact slotAt_ok h1
          · rw [if_neg hc]; exact slotAt_ok h0
def Slot.up (s : Slot) : Slot := ⟨s.n + 1, s.e + 1, s.h, s.f, s.b⟩
def G0 : LG := ⟨slot0, 0, 0, 0⟩
/-- How opening ends. -/
inductive OpnR (S : DS) : DS → Int → LG → List (List UInt8) → Prop
  | len : (S.secs.length : Int) ≠ 514 → OpnR S S 1 G0 []
  | none : (S.secs.length : Int) = 514 → (newestR S).2 ≠ 0 → OpnR S S (newestR S).2 G0 []
  | st1 : (S.secs.length : Int) = 514 → (newestR S).2 = 0 → (storeR S (newestR S).1).2 ≠ 0 → OpnR S (storeR S (newestR S).1).1 (storeR S (newestR S).1).2 G0 []
  | full : (S.secs.length : Int) = 514 → (newestR S).2 = 0 → (storeR S (newestR S).1).2 = 0 → (newestR S).1.e = 65535 → OpnR S (storeR S (newestR S).1).1 5 G0 []
  | st2 : (S.secs.length : Int) = 514 → (newestR S).2 = 0 → (storeR S (newestR S).1).2 = 0 → (newestR S).1.e ≠ 65535 → (storeR (storeR S (newestR S).1).1 (newestR S).1.up).2 ≠ 0 → OpnR S (storeR (storeR S (newestR S).1).1 (newestR S).1.up).1 (storeR (storeR S (newestR S).1).1 (newestR S).1.up).2 G0 []
  | ok {bs : List (List UInt8)} {a n : Int} : (S.secs.length : Int) = 514 → (newestR S).2 = 0 → (storeR S (newestR S).1).2 = 0 → (newestR S).1.e ≠ 65535 → (storeR (storeR S (newestR S).1).1 (newestR S).1.up).2 = 0 →
    Recs S (beginR (newestR S).1.h + 256) (newestR S).1.e (newestR S).1.b (beginR (newestR S).1.h) (newestR S).1.f bs a n → OpnR S (storeR (storeR S (newestR S).1).1 (newestR S).1.up).1 0 ⟨(newestR S).1.up, a, n, 0⟩ bs
theorem flushR_pend (S : DS) : (flushR S).1.pend.length ≤ S.pend.length := by
  unfold flushR
  split
  · exact Nat.le_refl _
  · exact Nat.zero_le _
theorem storeR_pend (S : DS) (s : Slot) : (storeR S s).1.pend.length ≤ S.pend.length + 1 := by
  unfold storeR
  have h1 := writeR_pend S (s.n.tmod 2) (slotX s)
  have h2 := flushR_pend (writeR S (s.n.tmod 2) (slotX s)).1
  split
  · dsimp only; omega
  · split
    · omega
    · omega
/-- What the opening gives: an error, or a log with its records. -/
def OpenV (I : Imm) (d : Value) (er : Int) (G : LG) (bs : List (List UInt8)) (x y : Value) (Lo : Own) : Prop :=
  (er ≠ 0 ∧ x = .pointer none ∧ y = .slice none 0 0 ∧ Lo = []) ∨ (er = 0 ∧ ∃ lb vs, x = .pointer (some ⟨lb, 0, none⟩) ∧ Lo = [(lb, .cells (logV d G).toArray 69)] ∧ RdR I y vs bs)
set_option maxRecDepth 100000 in
set_option maxHeartbeats 1000000 in
theorem open_log {w0 w : World} {I : Imm} {L Ld : Own} {d : Value} {S : DS} (hd : DiskO d S Ld) (hst : St w0 w I (Ld ++ L)) (hpn : S.pend.length ≤ 900000) :
    Calls Try.prog 11 #[d] w fun e w' => ∃ I' Ld' Lo x y S' er G bs, Imm.le I I' ∧ e = .returned (.tuple #[x, y, .int .i64 er]) ∧ St w0 w' I' (Lo ++ (Ld' ++ L)) ∧ DiskO d S' Ld' ∧ OpenV I' d er G bs x y Lo ∧ OpnR S S' er G bs := by
  obtain ⟨hb, rfl⟩ : ∃ hb, d = .pointer (some ⟨hb, 0, none⟩) := by
    obtain ⟨hb, _, _, _, _, h, _⟩ := hd
    exact ⟨hb, h⟩
  refine enter Try.func11 rfl (N := 64) rfl rfl ?_
  simp only [List.zipIdx_cons, List.zipIdx_nil, List.map_cons, List.map_nil, Nat.zero_add, Nat.reduceAdd]
  have hle := Imm.le.refl I
  refine CW.seq ?_
  -- region 0
  refine CW.region ?_
  refine RW.op1 rfl (runs_assign rfl) ?_
  refine RW.op1 rfl (runs_assign rfl) ?_
  refine RW.op1 rfl (runs_assign rfl) ?_
  refine RW.done ?_
  refine AQ.next ?_
  refine CW.seq ?_
  refine CW.seq ?_
  -- region 1
  refine CW.region ?_
  refine RW.op1 rfl (runs_move rfl) ?_
  refine RW.call rfl call29 rfl rfl (fits_spec hd hst) ?_
  rintro e w ⟨rfl, hstn⟩
  clear hst
  have hst := hstn
  clear hstn
  refine ⟨_, rfl, ?_⟩
  refine RW.op1 rfl (runs_not rfl) ?_
  refine RW.done ?_
  refine AQ.next ?_
  refine CW.cond rfl (fun hc10 => ?_) (fun hc10 => ?_)
  · have hcb10 := hc10
    try simp only [decide_eq_true_eq, decide_eq_false_iff_not] at hc10
    skip
    refine CW.seq ?_
    -- region 2
    refine CW.region ?_
    refine RW.op1 rfl (runs_assign rfl) ?_
    refine RW.op1 rfl (runs_assign rfl) ?_
    refine RW.op1 rfl (runs_assign rfl) ?_
    refine RW.done ?_
    refine AQ.next ?_
    refine CW.ret ?_
    refine AQ.past_ret ?_
    refine AQ.retL (rs := [.tmp 2, .tmp 3, .tmp 4]) (vs := [_, _, _]) rfl ⟨rfl, rfl, rfl, trivial⟩ (by simp) ?_
    exact ⟨_, Ld, [], _, _, S, 1, G0, [], hle, rfl, hst, hd, .inl ⟨by decide, rfl, rfl, rfl⟩, .len (by simpa using hc10)⟩
  · have hcb10 := hc10
    try simp only [decide_eq_true_eq, decide_eq_false_iff_not] at hc10
    have hlen : (S.secs.length : Int) = 514 := by simpa using hc10
    refine CW.skip ?_
    refine AQ.next ?_
    refine CW.seq ?_
    -- region 3
    refine CW.region ?_
    refine RW.op1 rfl (runs_move rfl) ?_
    refine RW.call rfl call33 rfl rfl (newest_spec hd hst) ?_
    rintro e w ⟨I2, hI2, rfl, hstn⟩
    clear hst
    have hst := hstn
    clear hstn
    obtain ⟨s, hs⟩ : ∃ s, (newestR S).1 = s := ⟨_, rfl⟩
    have hnn : OpnR S S (newestR S).2 G0 [] ∨ (newestR S).2 = 0 := by
      by_cases h : (newestR S).2 = 0
      · exact .inr h
      · exact .inl (.none hlen h)
    have hso := newest_ok (S := S)
    have h1 := OpnR.st1 (S := S) hlen
    have h2 := OpnR.full (S := S) hlen
    have h3 := OpnR.st2 (S := S) hlen
    have h4 := fun bs a n => OpnR.ok (S := S) (bs := bs) (a := a) (n := n) hlen
    rw [hs] at h1 h2 h3 h4 hso ⊢
    replace hle := hle.trans hI2
    refine ⟨_, rfl, ?_⟩
    refine RW.op1 rfl (runs_move rfl) ?_
    refine RW.op1 rfl (runs_extract rfl rfl) ?_
    refine RW.op1 rfl (runs_extract rfl rfl) ?_
    refine RW.opE rfl (runs_alloc ti64 hst) ?_
    rintro _ w ⟨b3, rfl, hstn⟩
    clear hst
    have hst := hstn
    clear hstn
    first
      | refine RW.opE0 (runs_storeW ti64 rfl rfl hst (k := 0) rfl rfl rfl (NoFz.zero _) rfl) ?_
      | refine RW.opE0 (runs_storeP ti64 rfl rfl hst (k := 0) rfl rfl rfl (NoFz.zero _) rfl) ?_
      | refine RW.opE0 (runs_storeW ti64 rfl rfl hst (k := 1) rfl rfl rfl (NoFz.zero _) rfl) ?_
      | refine RW.opE0 (runs_storeP ti64 rfl rfl hst (k := 1) rfl rfl rfl (NoFz.zero _) rfl) ?_
      | refine RW.opE0 (runs_storeW ti64 rfl rfl hst (k := 2) rfl rfl rfl (NoFz.zero _) rfl) ?_
      | refine RW.opE0 (runs_storeP ti64 rfl rfl hst (k := 2) rfl rfl rfl (NoFz.zero _) rfl) ?_
    rintro w hstn
    clear hst
    have hst := hstn
    clear hstn
    try simp only [List.set_cons_zero, List.set_cons_succ] at hst
    refine RW.op1 rfl (runs_assign rfl) ?_
    refine RW.done ?_
    refine AQ.next ?_
    refine CW.seq ?_
    refine CW.seq ?_
    -- region 4
    refine CW.region ?_
    refine RW.op1 rfl (runs_move rfl) ?_
    refine RW.op1 rfl (runs_neI rfl rfl) ?_
    refine RW.done ?_
    refine AQ.next ?_
    refine CW.cond rfl (fun hc17 => ?_) (fun hc17 => ?_)
    · have hcb17 := hc17
      try simp only [decide_eq_true_eq, decide_eq_false_iff_not] at hc17
      skip
      refine CW.seq ?_
      -- region 5
      refine CW.region ?_
      refine RW.op1 rfl (runs_move rfl) ?_
      refine RW.op1 rfl (runs_assign rfl) ?_
      refine RW.op1 rfl (runs_assign rfl) ?_
      refine RW.op1 rfl (runs_assign rfl) ?_
      refine RW.done ?_
      refine AQ.next ?_
      refine CW.ret ?_
      refine AQ.past_ret ?_
      refine AQ.retL (rs := [.tmp 2, .tmp 3, .tmp 4]) (vs := [_, _, _]) rfl ⟨rfl, rfl, rfl, trivial⟩ (by simp) ?_
      exact ⟨_, Ld, [], _, _, S, _, G0, [], hle, rfl, hst.drop1, hd, .inl ⟨by simpa using hc17, rfl, rfl, rfl⟩, hnn.resolve_right (by simpa using hc17)⟩
    · have hcb17 := hc17
      try simp only [decide_eq_true_eq, decide_eq_false_iff_not] at hc17
      have hz : (newestR S).2 = 0 := by simpa using hc17
      replace h1 := h1 hz
      replace h2 := h2 hz
      replace h3 := h3 hz
      replace h4 := fun bs a n => h4 bs a n hz
      replace hso := hso hz
      have hso2 := hso
      unfold SlotOk at hso2
      have hbe : beginR s.h = 2 + s.h * 256 := rfl
      refine CW.skip ?_
      refine AQ.next ?_
      refine CW.seq ?_
      -- region 6
      refine CW.drawSt hst (.q 0 (.q 1 (.q 2 (.q 3 (.q 5 (.q 6 (.l 4 (.q 7 (.l 8 (.q 9 .nil)))))))))) follows (by kernel_rfl) (fun w hst => ?_)
      refine DRW.q rfl rfl (fun w' hF => runs_move rfl) ?_
      first
        | refine DRW.q rfl rfl (FSt.loadN (vs := [_, _, _, _, _]) ag64 ti64 rfl (k := 0) rfl rfl rfl) ?_
        | refine DRW.q rfl rfl (FSt.loadN (vs := [_, _, _, _, _]) ag64 ti64 rfl (k := 1) rfl rfl rfl) ?_
        | refine DRW.q rfl rfl (FSt.loadN (vs := [_, _, _, _, _]) ag64 ti64 rfl (k := 2) rfl rfl rfl) ?_
      first
        | refine DRW.q rfl rfl (fun w' hF => runs_fieldAddr0 rfl Try.underlying64 rfl ti3 (by decide)) ?_
        | refine DRW.q rfl rfl (fun w' hF => runs_fieldAddr rfl Try.underlying64 rfl ti3 (by decide)) ?_
      first
        | refine DRW.q rfl rfl (FSt.load1_own sc3 rfl (k := 0) rfl rfl) ?_
        | refine DRW.q rfl rfl (FSt.load1_own sc3 rfl (k := 1) rfl rfl) ?_
        | refine DRW.q rfl rfl (FSt.load1_own sc3 rfl (k := 2) rfl rfl) ?_
      first
        | refine DRW.q rfl rfl (fun w' hF => runs_fieldAddr0 rfl Try.underlying64 rfl ti3 (by decide)) ?_
        | refine DRW.q rfl rfl (fun w' hF => runs_fieldAddr rfl Try.underlying64 rfl ti3 (by decide)) ?_
      first
        | refine DRW.q rfl rfl (FSt.load1_own sc3 rfl (k := 0) rfl rfl) ?_
        | refine DRW.q rfl rfl (FSt.load1_own sc3 rfl (k := 1) rfl rfl) ?_
        | refine DRW.q rfl rfl (FSt.load1_own sc3 rfl (k := 2) rfl rfl) ?_
      refine DRW.call rfl rfl call34 rfl rfl (begin_spec hst s.h (by omega)) ?_
      rintro e w ⟨rfl, hstn⟩
      clear hst
      have hst := hstn
      clear hstn
      refine ⟨_, rfl, FSt.of hst (Imm.le.refl _) (by first | exact (List.sublist_cons_self _ _).trans (List.sublist_append_right _ _) | exact List.Sublist.refl _ | exact List.sublist_cons_self _ _ | exact List.sublist_append_right _ _ | exact (List.sublist_cons_self _ _).trans (List.sublist_cons_self _ _) | exact (List.sublist_append_right _ _).trans (List.sublist_cons_self _ _) | simp), ?_⟩
      refine DRW.q rfl rfl (fun w' hF => runs_buildF (cells := [_, _, _, _, _, _, _, _, _]) bz69 rfl rfl rfl rfl rfl) ?_
      refine DRW.opE rfl rfl (runs_box rfl hst) ?_
      rintro _ w ⟨b6, rfl, hstn⟩
      clear hst
      have hst := hstn
      clear hstn
      refine ⟨FSt.of hst (Imm.le.refl _) (by first | exact (List.sublist_cons_self _ _).trans (List.sublist_append_right _ _) | exact List.Sublist.refl _ | exact List.sublist_cons_self _ _ | exact List.sublist_append_right _ _ | exact (List.sublist_cons_self _ _).trans (List.sublist_cons_self _ _) | exact (List.sublist_append_right _ _).trans (List.sublist_cons_self _ _) | simp), ?_⟩
      refine DRW.q rfl rfl (fun w' hF => runs_assign rfl) ?_
      refine DRW.done ?_
      refine AQ.next ?_
      refine CW.seq ?_
      -- region 7
      refine CW.region ?_
      refine RW.op1 rfl (runs_move rfl) ?_
      refine RW.call rfl call35 rfl rfl (records_spec (G := ⟨s, beginR s.h, s.f, 0⟩) hd (hst.perm (List.perm_middle.symm.cons _)) (by dsimp only; omega) (by dsimp only; omega) (by dsimp only; omega)) ?_
      rintro e w ⟨I7, vr, vs, bs, ra, rn, hI7, rfl, hstn, hrr, hrecs⟩
      clear hst
      have hst := hstn
      clear hstn
      replace hst := hst.perm (List.perm_middle.cons _)
      replace hle := hle.trans hI7
      refine ⟨_, rfl, ?_⟩
      refine RW.op1 rfl (runs_assign rfl) ?_
      refine RW.done ?_
      refine AQ.next ?_
      refine CW.seq ?_
      refine CW.seq ?_
      -- region 8
      refine CW.region ?_
      refine RW.op1 rfl (runs_move rfl) ?_
      first
        | refine RW.op1 rfl (runs_loadN (vs := [_, _, _, _, _]) ag64 ti64 rfl hst (k := 0) rfl rfl rfl) ?_
        | refine RW.op1 rfl (runs_loadN (vs := [_, _, _, _, _]) ag64 ti64 rfl hst (k := 1) rfl rfl rfl) ?_
        | refine RW.op1 rfl (runs_loadN (vs := [_, _, _, _, _]) ag64 ti64 rfl hst (k := 2) rfl rfl rfl) ?_
      refine RW.call rfl call32 rfl rfl (store_spec hd (hst.perm (perm_two2 _ _ Ld L)) s (by unfold i64ok; omega) (by omega)) ?_
      rintro e w ⟨I8, Ld1, hI8, rfl, hstn, hd1⟩
      clear hst
      have hst := hstn
      clear hstn
      replace hst := hst.perm (perm_two2 _ _ Ld1 L).symm
      have hp1 := storeR_pend S s
      replace hrr := hrr.mono hI8
      replace hle := hle.trans hI8
      refine ⟨_, rfl, ?_⟩
      refine RW.op1 rfl (runs_assign rfl) ?_
      refine RW.done ?_
      refine AQ.next ?_
      refine CW.seq ?_
      -- region 9
      refine CW.region ?_
      refine RW.op1 rfl (runs_move rfl) ?_
      refine RW.op1 rfl (runs_neI rfl rfl) ?_
      refine RW.done ?_
      refine AQ.next ?_
      refine CW.cond rfl (fun hc34 => ?_) (fun hc34 => ?_)
      · have hcb34 := hc34
        try simp only [decide_eq_true_eq, decide_eq_false_iff_not] at hc34
        skip
        refine CW.seq ?_
        -- region 10
        refine CW.region ?_
        refine RW.op1 rfl (runs_move rfl) ?_
        refine RW.op1 rfl (runs_assign rfl) ?_
        refine RW.op1 rfl (runs_assign rfl) ?_
        refine RW.op1 rfl (runs_assign rfl) ?_
        refine RW.done ?_
        refine AQ.next ?_
        refine CW.ret ?_
        refine AQ.past_ret ?_
        refine AQ.retL (rs := [.tmp 2, .tmp 3, .tmp 4]) (vs := [_, _, _]) rfl ⟨rfl, rfl, rfl, trivial⟩ (by simp) ?_
        exact ⟨_, Ld1, [], _, _, _, _, G0, [], hle, rfl, hst.drop1.drop1, hd1, .inl ⟨by simpa using hc34, rfl, rfl, rfl⟩, h1 (by simpa using hc34)⟩
      · have hcb34 := hc34
        try simp only [decide_eq_true_eq, decide_eq_false_iff_not] at hc34
        have hz1 : (storeR S s).2 = 0 := by simpa using hc34
        replace h2 := h2 hz1
        replace h3 := h3 hz1
        replace h4 := fun bs a n => h4 bs a n hz1
        refine CW.skip ?_
        refine AQ.next ?_
        refine CW.seq ?_
        refine CW.seq ?_
        -- region 11
        refine CW.region ?_
        first
          | refine RW.op1 rfl (runs_fieldAddr0 rfl Try.underlying64 rfl ti3 (by decide)) ?_
          | refine RW.op1 rfl (runs_fieldAddr rfl Try.underlying64 rfl ti3 (by decide)) ?_
        first
          | refine RW.op1 rfl (runs_load1 sc3 rfl (hst.cell_own (k := 0) rfl rfl)) ?_
          | refine RW.op1 rfl (runs_load1 sc3 rfl (hst.cell_own (k := 1) rfl rfl)) ?_
          | refine RW.op1 rfl (runs_load1 sc3 rfl (hst.cell_own (k := 2) rfl rfl)) ?_
        refine RW.op1 rfl (runs_eqI rfl rfl) ?_
        refine RW.done ?_
        refine AQ.next ?_
        refine CW.cond rfl (fun hc38 => ?_) (fun hc38 => ?_)
        · have hcb38 := hc38
          try simp only [decide_eq_true_eq, decide_eq_false_iff_not] at hc38
          skip
          refine CW.seq ?_
          -- region 12
          refine CW.region ?_
          refine RW.op1 rfl (runs_assign rfl) ?_
          refine RW.op1 rfl (runs_assign rfl) ?_
          refine RW.op1 rfl (runs_assign rfl) ?_
          refine RW.done ?_
          refine AQ.next ?_
          refine CW.ret ?_
          refine AQ.past_ret ?_
          refine AQ.retL (rs := [.tmp 2, .tmp 3, .tmp 4]) (vs := [_, _, _]) rfl ⟨rfl, rfl, rfl, trivial⟩ (by simp) ?_
          exact ⟨_, Ld1, [], _, _, _, 5, G0, [], hle, rfl, hst.drop1.drop1, hd1, .inl ⟨by decide, rfl, rfl, rfl⟩, h2 hc38⟩
        · have hcb38 := hc38
          try simp only [decide_eq_true_eq, decide_eq_false_iff_not] at hc38
          replace h3 := h3 hc38
          replace h4 := fun bs a n => h4 bs a n hc38
          refine CW.skip ?_
          refine AQ.next ?_
          refine CW.seq ?_
          -- region 13
          refine CW.draw (FSt w0 I8 ((b3, .cells (slotV s).toArray 64) :: (Ld1 ++ L))) (.q 0 (.q 1 (.q 2 (.q 3 (.q 4 (.q 5 (.q 6 (.q 7 (.q 8 (.q 9 (.q 10 (.l 11 (.q 12 (.q 13 (.q 14 (.l 15 .nil)))))))))))))))) follows (by kernel_rfl) ⟨_, Imm.le.refl _, hst.draw.drop1⟩ ?_
          replace hst := hst.draw
          refine DRW.q rfl rfl (fun w' hF => runs_move rfl) ?_
          refine DRW.q rfl rfl (fun w' hF => runs_move rfl) ?_
          first
            | refine DRW.q rfl rfl (fun w' hF => runs_fieldAddr0 rfl Try.underlying64 rfl ti3 (by decide)) ?_
            | refine DRW.q rfl rfl (fun w' hF => runs_fieldAddr rfl Try.underlying64 rfl ti3 (by decide)) ?_
          first
            | refine DRW.q rfl rfl (FSt.load1_own sc3 rfl (k := 0) rfl rfl) ?_
            | refine DRW.q rfl rfl (FSt.load1_own sc3 rfl (k := 1) rfl rfl) ?_
            | refine DRW.q rfl rfl (FSt.load1_own sc3 rfl (k := 2) rfl rfl) ?_
          refine DRW.q rfl rfl (fun w' hF => runs_add rfl rfl (by omega)) ?_
          first
            | refine DRW.q rfl rfl (fun w' hF => runs_fieldAddr0 rfl Try.underlying64 rfl ti3 (by decide)) ?_
            | refine DRW.q rfl rfl (fun w' hF => runs_fieldAddr rfl Try.underlying64 rfl ti3 (by decide)) ?_
          first
            | refine DRW.q rfl rfl (FSt.load1_own sc3 rfl (k := 0) rfl rfl) ?_
            | refine DRW.q rfl rfl (FSt.load1_own sc3 rfl (k := 1) rfl rfl) ?_
            | refine DRW.q rfl rfl (FSt.load1_own sc3 rfl (k := 2) rfl rfl) ?_
          refine DRW.q rfl rfl (fun w' hF => runs_add rfl rfl (by omega)) ?_
          refine DRW.q rfl rfl (fun w' hF => runs_nilCheck rfl) ?_
          first
            | refine DRW.q rfl rfl (fun w' hF => runs_fieldAddr0 rfl Try.underlying69 rfl ti64 (by decide)) ?_
            | refine DRW.q rfl rfl (fun w' hF => runs_fieldAddr rfl Try.underlying69 rfl ti64 (by decide)) ?_
          first
            | refine DRW.q rfl rfl (fun w' hF => runs_fieldAddr0 rfl Try.underlying64 rfl ti3 (by decide)) ?_
            | refine DRW.q rfl rfl (fun w' hF => runs_fieldAddr rfl Try.underlying64 rfl ti3 (by decide)) ?_
          first
            | refine DRW.opE0 rfl (runs_store1P ti3 rfl rfl hst (k := 0) rfl rfl (NoFz.zero _) rfl) ?_
            | refine DRW.opE0 rfl (runs_store1P ti3 rfl rfl hst (k := 1) rfl rfl (NoFz.zero _) rfl) ?_
            | refine DRW.opE0 rfl (runs_store1P ti3 rfl rfl hst (k := 2) rfl rfl (NoFz.zero _) rfl) ?_
          rintro w hstn
          clear hst
          have hst := hstn
          clear hstn
          try simp only [List.set_cons_zero, List.set_cons_succ] at hst
          refine ⟨FSt.of hst (Imm.le.refl _) (by first | exact (List.sublist_cons_self _ _).trans (List.sublist_append_right _ _) | exact List.Sublist.refl _ | exact List.sublist_cons_self _ _ | exact List.sublist_append_right _ _ | exact (List.sublist_cons_self _ _).trans (List.sublist_cons_self _ _) | exact (List.sublist_append_right _ _).trans (List.sublist_cons_self _ _) | simp), ?_⟩
          refine DRW.q rfl rfl (fun w' hF => runs_nilCheck rfl) ?_
          first
            | refine DRW.q rfl rfl (fun w' hF => runs_fieldAddr0 rfl Try.underlying69 rfl ti64 (by decide)) ?_
            | refine DRW.q rfl rfl (fun w' hF => runs_fieldAddr rfl Try.underlying69 rfl ti64 (by decide)) ?_
          first
            | refine DRW.q rfl rfl (fun w' hF => runs_fieldAddr0 rfl Try.underlying64 rfl ti3 (by decide)) ?_
            | refine DRW.q rfl rfl (fun w' hF => runs_fieldAddr rfl Try.underlying64 rfl ti3 (by decide)) ?_
          first
            | refine DRW.opE0 rfl (runs_store1P ti3 rfl rfl hst (k := 0) rfl rfl (NoFz.zero _) rfl) ?_
            | refine DRW.opE0 rfl (runs_store1P ti3 rfl rfl hst (k := 1) rfl rfl (NoFz.zero _) rfl) ?_
            | refine DRW.opE0 rfl (runs_store1P ti3 rfl rfl hst (k := 2) rfl rfl (NoFz.zero _) rfl) ?_
          rintro w hstn
          clear hst
          have hst := hstn
          clear hstn
          try simp only [List.set_cons_zero, List.set_cons_succ] at hst
          refine ⟨FSt.of hst (Imm.le.refl _) (by first | exact (List.sublist_cons_self _ _).trans (List.sublist_append_right _ _) | exact List.Sublist.refl _ | exact List.sublist_cons_self _ _ | exact List.sublist_append_right _ _ | exact (List.sublist_cons_self _ _).trans (List.sublist_cons_self _ _) | exact (List.sublist_append_right _ _).trans (List.sublist_cons_self _ _) | simp), ?_⟩
          refine DRW.done ?_
          refine AQ.next ?_
          refine CW.seq ?_
          refine CW.seq ?_
          -- region 14
          refine CW.region ?_
          refine RW.op1 rfl (runs_move rfl) ?_
          refine RW.op1 rfl (runs_move rfl) ?_
          refine RW.op1 rfl (runs_nilCheck rfl) ?_
          first
            | refine RW.op1 rfl (runs_fieldAddr0 rfl Try.underlying69 rfl ti64 (by decide)) ?_
            | refine RW.op1 rfl (runs_fieldAddr rfl Try.underlying69 rfl ti64 (by decide)) ?_
          first
            | refine RW.op1 rfl (runs_loadN (vs := [_, _, _, _, _]) ag64 ti64 rfl hst (k := 0) rfl rfl rfl) ?_
            | refine RW.op1 rfl (runs_loadN (vs := [_, _, _, _, _]) ag64 ti64 rfl hst (k := 1) rfl rfl rfl) ?_
            | refine RW.op1 rfl (runs_loadN (vs := [_, _, _, _, _]) ag64 ti64 rfl hst (k := 2) rfl rfl rfl) ?_
          refine RW.call rfl call32 rfl rfl (store_spec hd1 (hst.perm (perm_two2 _ _ Ld1 L)) s.up (by unfold i64ok Slot.up; dsimp only; omega) (by omega)) ?_
          rintro e w ⟨I11, Ld2, hI11, rfl, hstn, hd2⟩
          clear hst
          have hst := hstn
          clear hstn
          replace hst := hst.perm (perm_two2 _ _ Ld2 L).symm
          replace hrr := hrr.mono hI11
          replace hle := hle.trans hI11
          refine ⟨_, rfl, ?_⟩
          refine RW.op1 rfl (runs_assign rfl) ?_
          refine RW.done ?_
          refine AQ.next ?_
          refine CW.seq ?_
          -- region 15
          refine CW.region ?_
          refine RW.op1 rfl (runs_move rfl) ?_
          refine RW.op1 rfl (runs_neI rfl rfl) ?_
          refine RW.done ?_
          refine AQ.next ?_
          refine CW.cond rfl (fun hc60 => ?_) (fun hc60 => ?_)
          · have hcb60 := hc60
            try simp only [decide_eq_true_eq, decide_eq_false_iff_not] at hc60
            refine CW.seq ?_
            -- region 16
            refine CW.region ?_
            refine RW.op1 rfl (runs_move rfl) ?_
            refine RW.op1 rfl (runs_assign rfl) ?_
            refine RW.op1 rfl (runs_assign rfl) ?_
            refine RW.op1 rfl (runs_assign rfl) ?_
            refine RW.done ?_
            refine AQ.next ?_
            refine CW.ret ?_
            refine AQ.past_ret ?_
            refine AQ.retL (rs := [.tmp 2, .tmp 3, .tmp 4]) (vs := [_, _, _]) rfl ⟨rfl, rfl, rfl, trivial⟩ (by simp) ?_
            exact ⟨_, Ld2, [], _, _, _, _, G0, [], hle, rfl, hst.drop1.drop1, hd2, .inl ⟨by simpa using hc60, rfl, rfl, rfl⟩, h3 (by simpa using hc60)⟩
          · have hcb60 := hc60
            try simp only [decide_eq_true_eq, decide_eq_false_iff_not] at hc60
            refine CW.skip ?_
            refine AQ.next ?_
            refine CW.seq ?_
            -- region 17
            refine CW.region ?_
            refine RW.op1 rfl (runs_move rfl) ?_
            refine RW.op1 rfl (runs_move rfl) ?_
            refine RW.op1 rfl (runs_assign rfl) ?_
            refine RW.op1 rfl (runs_assign rfl) ?_
            refine RW.op1 rfl (runs_assign rfl) ?_
            refine RW.done ?_
            refine AQ.next ?_
            refine CW.ret ?_
            refine AQ.retL (rs := [.tmp 2, .tmp 3, .tmp 4]) (vs := [_, _, _]) rfl ⟨rfl, rfl, rfl, trivial⟩ (by simp) ?_
            exact ⟨_, Ld2, [_], _, _, _, 0, ⟨s.up, ra, rn, 0⟩, bs, hle, rfl, hst.sub ((List.sublist_cons_self _ _).cons_cons _), hd2, .inr ⟨rfl, _, vs, rfl, rfl, hrr⟩, h4 bs ra rn (by simpa using hc60) hrecs⟩
end Go.Proofs.YthocicjjighbnaaX
