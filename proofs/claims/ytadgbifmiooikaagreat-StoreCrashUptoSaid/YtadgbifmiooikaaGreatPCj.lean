/- Parts of a proof, joined: walks through the program's functions and their laws, in the order in which they need each other. -/
import Derived.Test.YtadgbifmiooikaaGreatPCb
import Derived.Test.YtadgbifmiooikaaGreatPCi
namespace Go.Proofs.YtadgbifmiooikaaGreatX
set_option linter.unusedVariables false
set_option linter.unusedSimpArgs false
open Go Go.RowKit Go.Proofs
theorem openR_rng (s : List UInt8) : 0 ≤ (openR s).e ∧ (openR s).e < 65536 ∧ 0 ≤ (openR s).q ∧ (openR s).q < 16777216 := by
  have h0 := bat_lt s 0; have h1 := bat_lt s 1; have h2 := bat_lt s 2; have h3 := bat_lt s 3; have h4 := bat_lt s 4; unfold openR epochOf seqOf
  split
  · dsimp only; omega
  · dsimp only; omega
theorem frr_ok {S : DS} (hok : DOk S) {at_ end_ me mq next : Int} {b : List UInt8} (h : FrR S at_ end_ (me, mq, b, next, 0)) : 0 ≤ at_ ∧ at_ < next ∧ next ≤ end_ ∧ end_ ≤ S.secs.length ∧ 0 ≤ mq ∧ mq < 16777216 ∧ 0 ≤ me ∧ me < 65536 ∧ b.length ≤ 8160 := by
  unfold FrR at h
  split at h
  · simp at h
  · rename_i hr
    have h0 : 0 ≤ at_ ∧ at_ < end_ ∧ end_ ≤ S.secs.length := by omega
    obtain ⟨ge, gq, gb, parts, ger, hg, h⟩ := h; have hl := gather_len hok h0 hg; unfold readEnd at h
    split at h
    · rename_i he
      simp only [Prod.mk.injEq] at h
      exact absurd h.2.2.2.2.symm he
    · rename_i he
      have he0 : ger = 0 := Decidable.of_not_not he
      split at h
      · simp at h
      · simp only [Prod.mk.injEq] at h
        obtain ⟨rfl, rfl, rfl, rfl, _⟩ := h
        rcases hg with ⟨_, _, _, _, _, h⟩ | ⟨_, ⟨n, h1, h2, h3, h4, h5, h6, h7, h8⟩ | ⟨k, _, _, _, _, _, _, _, h8⟩⟩
        · omega
        · have hb := (h3 (n - 1) (by omega)).1; have hq := openR_rng (readR S (at_ + ((0 : Nat) : Int))); rw [show openR (readR S (at_ + ((0 : Nat) : Int))) = oAt S at_ 0 from rfl, ← h4, ← h5] at hq; rw [List.length_drop]; omega
        · omega
inductive Recs (S : DS) (end_ e : Int) : Int → Int → Int → List (List UInt8) → Int → Int → Prop
  | stop {least at_ nx me mq next er : Int} {b : List UInt8} : FrR S at_ end_ (me, mq, b, next, er) → (er ≠ 0 ∨ mq ≠ nx ∨ me < least ∨ e < me) → Recs S end_ e least at_ nx [] at_ nx
  | step {least at_ nx me next a n : Int} {b : List UInt8} {bs : List (List UInt8)} : FrR S at_ end_ (me, nx, b, next, 0) → least ≤ me → me ≤ e → Recs S end_ e me next (nx + 1) bs a n → Recs S end_ e least at_ nx (b :: bs) a n
def LG.to (G : LG) (a n : Int) : LG := { G with at_ := a, nx := n }
theorem perm_out {α : Type} (x : α) (A B C : List α) : (x :: (A ++ (B ++ C))).Perm (B ++ (x :: (A ++ C))) := by
  refine List.Perm.trans ?_ List.perm_middle.symm; refine List.Perm.cons x ?_; rw [← List.append_assoc, ← List.append_assoc]; exact List.perm_append_comm.append_right C
theorem perm_out2 {α : Type} (x y : α) (A B C : List α) : (x :: y :: (A ++ (B ++ C))).Perm (B ++ (x :: y :: (A ++ C))) := by
  refine List.Perm.trans ((perm_out y A B C).cons x) ?_; exact List.perm_middle.symm
set_option maxRecDepth 100000 in
set_option maxHeartbeats 1000000 in
theorem records_spec {w0 w : World} {I : Imm} {L Ld : Own} {d : Value} {S : DS} {lb : Nat} {G : LG} (hd : DiskO d S Ld) (hst : St w0 w I ((lb, .cells (logV d G).toArray 92) :: (Ld ++ L))) (hh : 0 ≤ G.s.h ∧ G.s.h ≤ 1) (ha : 0 ≤ G.at_ ∧ G.at_ ≤ 600) (hn : 0 ≤ G.nx ∧ G.nx ≤ 16777216) :
    Calls Tryz.prog 46 #[.pointer (some ⟨lb, 0, none⟩)] w fun e w' => ∃ I' v' vs bs a n, Imm.le I I' ∧ e = .returned v' ∧ St w0 w' I' ((lb, .cells (logV d (G.to a n)).toArray 92) :: (Ld ++ L)) ∧ RdR I' v' vs bs ∧ Recs S (beginR G.s.h + 256) G.s.e G.s.b G.at_ G.nx bs a n := by
  have hok : DOk S := by obtain ⟨_, _, _, _, _, _, _, _, _, hok⟩ := hd; exact hok
  have hsl := hok.1; have hbe : beginR G.s.h = 2 + G.s.h * 256 := rfl; refine enter Tryz.func46 rfl (N := 82) rfl rfl ?_
  simp only [zA, zB, zC, zD, zE, Nat.reduceAdd]
  have hle := Imm.le.refl I; refine zR <| zS rfl rfl <| zN <| zS rfl rfl <| zN <| zm rfl rfl <| z1 rfl (runs_nilCheck rfl) <| zp rfl rfl U92 rfl ti88 rfl <| zp rfl rfl U88 rfl ti3 rfl <| zl 0 rfl sc3 rfl hst rfl rfl ?_; refine zS rfl rfl <| zM <| CW.block ?_; refine CW.loop (List (List UInt8) × Int × Int × Int × Imm × Value × Own) (fun x w => I.le x.2.2.2.2.1 ∧ St w0 w x.2.2.2.2.1 ((lb, .cells (logV d (G.to x.2.2.1 x.2.2.2.1)).toArray 92) :: (x.2.2.2.2.2.2 ++ (Ld ++ L))) ∧ GrowR x.2.2.2.2.1 52 x.2.2.2.2.2.1 x.1 x.2.2.2.2.2.2 ∧ (∀ bs a n, Recs S (beginR G.s.h + 256) G.s.e x.2.1 x.2.2.1 x.2.2.2.1 bs a n → Recs S (beginR G.s.h + 256) G.s.e G.s.b G.at_ G.nx (x.1 ++ bs) a n) ∧ (0 ≤ x.2.2.1 ∧ x.2.2.1 ≤ 600 ∧ 0 ≤ x.2.2.2.1 ∧ x.2.2.2.1 ≤ 16777216 ∧ (x.1.length : Int) ≤ x.2.2.1)) (fun x => [(0, .pointer (some ⟨lb, 0, none⟩)), (3, x.2.2.2.2.2.1), (4, .int .i64 x.2.1)]) (fun x => (1000 - x.2.2.1).toNat) ⟨([], G.s.b, G.at_, G.nx, _, _, []), ⟨hle, hst, GrowR.nil _, fun bs a n h => h, ha.1, ha.2, hn.1, hn.2, by show ((0 : Nat) : Int) ≤ G.at_; omega⟩, ⟨rfl, rfl, rfl, trivial⟩⟩ ?_; clear hle hst; rintro ⟨done, least, at1, nx1, IK, vo, Lo⟩ w ⟨hle, hst, hgr, hrec, hb1⟩; dsimp only at hle hst hgr hrec hb1 ⊢; refine CW.block <| zk <| zX (Imm × Value × List UInt8 × Int × Int × Int × Int × Nat) (fun y w => I.le y.1 ∧ St w0 w y.1 ((y.2.2.2.2.2.2.2, .cells #[.int .i64 y.2.2.2.1, .int .i64 y.2.2.2.2.1] 124) :: (lb, .cells (logV d (G.to at1 nx1)).toArray 92) :: (Lo ++ (Ld ++ L))) ∧ GrowR y.1 52 vo done Lo ∧ RdB y.1 y.2.1 y.2.2.1 ∧ FrR S at1 (beginR G.s.h + 256) (y.2.2.2.1, y.2.2.2.2.1, y.2.2.1, y.2.2.2.2.2.1, y.2.2.2.2.2.2.1)) (fun y => [(0, .pointer (some ⟨lb, 0, none⟩)), (3, vo), (4, .int .i64 least), (5, .pointer (some ⟨y.2.2.2.2.2.2.2, 0, none⟩)), (6, y.2.1), (7, .int .i64 y.2.2.2.2.2.1), (8, .int .i64 y.2.2.2.2.2.2.1)]) ?_ ?_
  ·
    refine CW.drawSt hst (.q 0 (.q 1 (.q 2 (.q 3 (.q 4 (.q 5 (.q 6 (.q 7 (.q 8 (.q 9 (.q 10 (.q 11 (.q 12 (.fork (.l 13 (.q 14 (.fork (.l 15 (.q 16 (.q 17 (.q 18 (.q 19 (.q 20 (.l 21 (.l 22 (.q 23 (.q 24 (.q 25 .nil))))))))))) (.l 21 (.l 15 (.q 16 (.q 17 (.q 18 (.q 19 (.q 20 (.l 22 (.q 23 (.q 24 (.q 25 .nil)))))))))))))) (.l 21 (.l 13 (.q 14 (.l 15 (.q 16 (.q 17 (.q 18 (.q 19 (.q 20 (.l 22 (.q 23 (.q 24 (.q 25 .nil))))))))))))))))))))))))))) follows (by kernel_rfl) (fun w hst => ?_); refine ym rfl rfl rfl <| yc rfl rfl rfl <| yp rfl rfl rfl U92 rfl ti23 rfl <| yl 0 rfl rfl sc23 rfl rfl rfl <| ym rfl rfl rfl <| yc rfl rfl rfl <| yp rfl rfl rfl U92 rfl ti3 rfl <| yl 0 rfl rfl sc3 rfl rfl rfl <| ym rfl rfl rfl <| yc rfl rfl rfl ?_; refine yp rfl rfl rfl U92 rfl ti88 rfl <| yp rfl rfl rfl U88 rfl ti3 rfl <| yl 0 rfl rfl sc3 rfl rfl rfl ?_; refine DRW.fork ?_ ?_
    · refine yC rfl rfl call45 rfl rfl (begin_spec hst G.s.h hh) ?_; clear hst; rintro e w ⟨rfl, hst⟩; refine ⟨_, rfl, FSt.ofA hst (Imm.le.refl _), ?_⟩; refine DRW.q rfl rfl (fun w' hF => runs_add rfl rfl (by omega)) ?_; refine DRW.fork ?_ ?_
      · refine yC rfl rfl call69 rfl rfl (fread_spec hd (hst.perm (perm_out _ Lo Ld L)) at1 (beginR G.s.h + 256)) ?_; clear hst; rintro e w ⟨I2, vR, me, mq, rb, nxt, er, hI2, rfl, hst, hrb, hfr⟩; replace hst := hst.perm (perm_out _ Lo Ld L).symm; replace hgr := hgr.mono hI2; replace hle := hle.trans hI2; refine ⟨_, rfl, FSt.ofA hst hI2, ?_⟩; refine ym rfl rfl rfl <| DRW.q rfl rfl (fun w' hF => runs_extract rfl rfl) ?_; refine DRW.q rfl rfl (fun w' hF => runs_extract rfl rfl) ?_; refine DRW.q rfl rfl (fun w' hF => runs_extract rfl rfl) ?_; refine DRW.q rfl rfl (fun w' hF => runs_extract rfl rfl) ?_; refine DRW.opE rfl rfl (runs_alloc ti124 hst) ?_; clear hst; rintro _ w ⟨b3, rfl, hst⟩; refine ⟨FSt.ofA hst hI2, ?_⟩; refine y0 rfl (runs_storeW ti124 rfl rfl hst (k := 0) rfl rfl rfl (NoFz.zero _) rfl) ?_; clear hst; rintro w hst; (try simp only [sZ, sS] at hst); refine ⟨FSt.ofA hst hI2, ?_⟩; refine yS rfl rfl rfl <| yS rfl rfl rfl <| yS rfl rfl rfl <| DRW.done ?_; exact zv (_, _, rb, me, mq, nxt, er, _) ⟨hle, hst, hgr, hrb, hfr⟩ ⟨rfl, rfl, rfl, rfl, rfl, rfl, rfl, trivial⟩
      refine DRW.opE rfl rfl (runs_alloc ti124 hst) ?_; clear hst; rintro _ w ⟨b5, rfl, hst⟩; refine ⟨FSt.ofA hst (Imm.le.refl _), ?_⟩; refine yC rfl rfl call69 rfl rfl (fread_spec hd (hst.perm (perm_out2 _ _ Lo Ld L)) at1 (beginR G.s.h + 256)) ?_; clear hst; rintro e w ⟨I6, vR, me, mq, rb, nxt, er, hI6, rfl, hst, hrb, hfr⟩; replace hst := hst.perm (perm_out2 _ _ Lo Ld L).symm; replace hgr := hgr.mono hI6; replace hle := hle.trans hI6; refine ⟨_, rfl, FSt.ofA hst hI6, ?_⟩; refine ym rfl rfl rfl <| DRW.q rfl rfl (fun w' hF => runs_extract rfl rfl) ?_; refine DRW.q rfl rfl (fun w' hF => runs_extract rfl rfl) ?_; refine DRW.q rfl rfl (fun w' hF => runs_extract rfl rfl) ?_; refine DRW.q rfl rfl (fun w' hF => runs_extract rfl rfl) ?_; refine y0 rfl (runs_storeW ti124 rfl rfl hst (k := 0) rfl rfl rfl (NoFz.zero _) rfl) ?_; clear hst; rintro w hst; (try simp only [sZ, sS] at hst); refine ⟨FSt.ofA hst hI6, ?_⟩; refine yS rfl rfl rfl <| yS rfl rfl rfl <| yS rfl rfl rfl <| DRW.done ?_; exact zv (_, _, rb, me, mq, nxt, er, _) ⟨hle, hst, hgr, hrb, hfr⟩ ⟨rfl, rfl, rfl, rfl, rfl, rfl, rfl, trivial⟩
    refine DRW.opE rfl rfl (runs_alloc ti124 hst) ?_; clear hst; rintro _ w ⟨b8, rfl, hst⟩; refine ⟨FSt.ofA hst (Imm.le.refl _), ?_⟩; refine yC rfl rfl call45 rfl rfl (begin_spec hst G.s.h hh) ?_; clear hst; rintro e w ⟨rfl, hst⟩; refine ⟨_, rfl, FSt.ofA hst (Imm.le.refl _), ?_⟩; refine DRW.q rfl rfl (fun w' hF => runs_add rfl rfl (by omega)) ?_; refine yC rfl rfl call69 rfl rfl (fread_spec hd (hst.perm (perm_out2 _ _ Lo Ld L)) at1 (beginR G.s.h + 256)) ?_; clear hst; rintro e w ⟨I10, vR, me, mq, rb, nxt, er, hI10, rfl, hst, hrb, hfr⟩; replace hst := hst.perm (perm_out2 _ _ Lo Ld L).symm; replace hgr := hgr.mono hI10; replace hle := hle.trans hI10; refine ⟨_, rfl, FSt.ofA hst hI10, ?_⟩; refine ym rfl rfl rfl <| DRW.q rfl rfl (fun w' hF => runs_extract rfl rfl) ?_; refine DRW.q rfl rfl (fun w' hF => runs_extract rfl rfl) ?_; refine DRW.q rfl rfl (fun w' hF => runs_extract rfl rfl) ?_; refine DRW.q rfl rfl (fun w' hF => runs_extract rfl rfl) ?_; refine y0 rfl (runs_storeW ti124 rfl rfl hst (k := 0) rfl rfl rfl (NoFz.zero _) rfl) ?_; clear hst; rintro w hst; (try simp only [sZ, sS] at hst); refine ⟨FSt.ofA hst hI10, ?_⟩; refine yS rfl rfl rfl <| yS rfl rfl rfl <| yS rfl rfl rfl <| DRW.done ?_; exact zv (_, _, rb, me, mq, nxt, er, _) ⟨hle, hst, hgr, hrb, hfr⟩ ⟨rfl, rfl, rfl, rfl, rfl, rfl, rfl, trivial⟩
  · clear hle hst hgr; rintro ⟨IR, vR, rb, me, mq, nxt, er, bm⟩ w ⟨hle, hst, hgr, hrb, hfr⟩; dsimp only at hle hst hgr hrb hfr ⊢; have hto1 : (G.to at1 nx1).nx = nx1 := rfl; have hto2 : (G.to at1 nx1).s.e = G.s.e := rfl; refine za <| zk <| zk ?_; refine CW.drawSt hst (.q 0 (.q 1 (.q 2 (.q 3 (.q 4 (.q 5 (.q 6 (.q 7 (.q 8 (.q 9 (.q 10 (.q 11 (.q 12 (.q 13 (.q 14 (.q 15 (.q 16 (.q 17 (.q 18 (.q 19 (.q 20 (.q 21 (.q 22 (.q 23 (.q 24 (.q 25 (.q 26 .nil))))))))))))))))))))))))))) follows (by kernel_rfl) (fun w hst => ?_); refine ym rfl rfl rfl <| DRW.q rfl rfl (fun w' hF => runs_neI rfl rfl) ?_; refine ym rfl rfl rfl <| DRW.split (t := 37) rfl (fun hb37 => ?_) (fun hb37 => ?_)
    · have hb37p := hb37; (try simp only [dY, dF] at hb37p); refine DRW.q_off rfl rfl rfl rfl hb37 rfl ?_; refine DRW.q_off rfl rfl rfl rfl hb37 rfl ?_; refine DRW.q_off rfl rfl rfl rfl hb37 rfl ?_; refine DRW.q_off rfl rfl rfl rfl hb37 rfl ?_; refine DRW.q_off rfl rfl rfl rfl hb37 rfl ?_; refine DRW.q_off rfl rfl rfl rfl hb37 rfl ?_; refine DRW.q_off rfl rfl rfl rfl hb37 rfl ?_; refine DRW.q rfl rfl (fun w' hF => runs_pick_true rfl hb37 rfl) ?_; refine ym rfl rfl rfl <| DRW.q_off rfl rfl rfl rfl rfl rfl ?_; refine DRW.q_off rfl rfl rfl rfl rfl rfl ?_; refine DRW.q_off rfl rfl rfl rfl rfl rfl ?_; refine DRW.q_off rfl rfl rfl rfl rfl rfl ?_; refine DRW.q rfl rfl (fun w' hF => runs_pick_true rfl rfl rfl) ?_; refine ym rfl rfl rfl <| DRW.q_off rfl rfl rfl rfl rfl rfl ?_; refine DRW.q_off rfl rfl rfl rfl rfl rfl ?_; refine DRW.q_off rfl rfl rfl rfl rfl rfl ?_; refine DRW.q_off rfl rfl rfl rfl rfl rfl ?_; refine DRW.q_off rfl rfl rfl rfl rfl rfl ?_; refine DRW.q_off rfl rfl rfl rfl rfl rfl ?_; refine DRW.q_off rfl rfl rfl rfl rfl rfl ?_; refine DRW.q_off rfl rfl rfl rfl rfl rfl ?_; refine DRW.q rfl rfl (fun w' hF => runs_pick_true rfl rfl rfl) ?_; refine DRW.done <| za <| CW.cond_true rfl ?_; refine zR <| zm rfl rfl <| zS rfl rfl <| zM <| CW.ret <| zr <| AQ.block_ret <| zr <| AQ.block_ret <| z9 rfl rfl ?_; obtain ⟨I', vs, hI', hst', hr'⟩ := GrowR.freeze hgr ((hst.drop1).perm List.perm_middle.symm)
      exact ⟨I', _, vs, _, _, _, hle.trans hI', rfl, hst', hr', by
        have h := hrec [] at1 nx1 (.stop hfr (by omega))
        rwa [List.append_nil] at h⟩
    · have hb37p := hb37; (try simp only [dY, dF] at hb37p); refine DRW.q_on rfl rfl rfl rfl hb37 rfl (fun w' hF => runs_fieldAddr0 rfl Tryz.underlying124 rfl ti3 (by decide)) ?_; refine DRW.q_on rfl rfl rfl rfl hb37 rfl (FSt.load1_own sc3 rfl (k := 0) rfl rfl) ?_; refine DRW.q_on rfl rfl rfl rfl hb37 rfl (fun w' hF => runs_move rfl) ?_; refine DRW.q_on rfl rfl rfl rfl hb37 rfl (fun w' hF => runs_nilCheck rfl) ?_; refine DRW.q_on rfl rfl rfl rfl hb37 rfl (fun w' hF => runs_fieldAddr0 rfl Tryz.underlying92 rfl ti3 (by decide)) ?_; refine DRW.q_on rfl rfl rfl rfl hb37 rfl (FSt.load1_own sc3 rfl (k := 1) rfl rfl) ?_; refine DRW.q_on rfl rfl rfl rfl hb37 rfl (fun w' hF => runs_neI rfl rfl) ?_; refine DRW.q rfl rfl (fun w' hF => runs_pick_false rfl hb37 rfl) ?_; refine ym rfl rfl rfl <| DRW.split (t := 46) rfl (fun hb46 => ?_) (fun hb46 => ?_)
      · have hb46p := hb46; (try simp only [dY, dF] at hb46p); refine DRW.q_off rfl rfl rfl rfl hb46 rfl ?_; refine DRW.q_off rfl rfl rfl rfl hb46 rfl ?_; refine DRW.q_off rfl rfl rfl rfl hb46 rfl ?_; refine DRW.q_off rfl rfl rfl rfl hb46 rfl ?_; refine DRW.q rfl rfl (fun w' hF => runs_pick_true rfl hb46 rfl) ?_; refine ym rfl rfl rfl <| DRW.q_off rfl rfl rfl rfl rfl rfl ?_; refine DRW.q_off rfl rfl rfl rfl rfl rfl ?_; refine DRW.q_off rfl rfl rfl rfl rfl rfl ?_; refine DRW.q_off rfl rfl rfl rfl rfl rfl ?_; refine DRW.q_off rfl rfl rfl rfl rfl rfl ?_; refine DRW.q_off rfl rfl rfl rfl rfl rfl ?_; refine DRW.q_off rfl rfl rfl rfl rfl rfl ?_; refine DRW.q_off rfl rfl rfl rfl rfl rfl ?_; refine DRW.q rfl rfl (fun w' hF => runs_pick_true rfl rfl rfl) ?_; refine DRW.done <| za <| CW.cond_true rfl ?_; refine zR <| zm rfl rfl <| zS rfl rfl <| zM <| CW.ret <| zr <| AQ.block_ret <| zr <| AQ.block_ret <| z9 rfl rfl ?_; obtain ⟨I', vs, hI', hst', hr'⟩ := GrowR.freeze hgr ((hst.drop1).perm List.perm_middle.symm)
        exact ⟨I', _, vs, _, _, _, hle.trans hI', rfl, hst', hr', by
          have h := hrec [] at1 nx1 (.stop hfr (by omega))
          rwa [List.append_nil] at h⟩
      · have hb46p := hb46; (try simp only [dY, dF] at hb46p); refine DRW.q_on rfl rfl rfl rfl hb46 rfl (fun w' hF => runs_fieldAddr0 rfl Tryz.underlying124 rfl ti3 (by decide)) ?_; refine DRW.q_on rfl rfl rfl rfl hb46 rfl (FSt.load1_own sc3 rfl (k := 0) rfl rfl) ?_; refine DRW.q_on rfl rfl rfl rfl hb46 rfl (fun w' hF => runs_move rfl) ?_; refine DRW.q_on rfl rfl rfl rfl hb46 rfl (fun w' hF => runs_lss rfl rfl) ?_; refine DRW.q rfl rfl (fun w' hF => runs_pick_false rfl hb46 rfl) ?_; refine ym rfl rfl rfl <| DRW.split (t := 52) rfl (fun hb52 => ?_) (fun hb52 => ?_)
        · have hb52p := hb52; (try simp only [dY, dF] at hb52p); refine DRW.q_off rfl rfl rfl rfl hb52 rfl ?_; refine DRW.q_off rfl rfl rfl rfl hb52 rfl ?_; refine DRW.q_off rfl rfl rfl rfl hb52 rfl ?_; refine DRW.q_off rfl rfl rfl rfl hb52 rfl ?_; refine DRW.q_off rfl rfl rfl rfl hb52 rfl ?_; refine DRW.q_off rfl rfl rfl rfl hb52 rfl ?_; refine DRW.q_off rfl rfl rfl rfl hb52 rfl ?_; refine DRW.q_off rfl rfl rfl rfl hb52 rfl ?_; refine DRW.q rfl rfl (fun w' hF => runs_pick_true rfl hb52 rfl) ?_; refine DRW.done <| za <| CW.cond_true rfl ?_; refine zR <| zm rfl rfl <| zS rfl rfl <| zM <| CW.ret <| zr <| AQ.block_ret <| zr <| AQ.block_ret <| z9 rfl rfl ?_; obtain ⟨I', vs, hI', hst', hr'⟩ := GrowR.freeze hgr ((hst.drop1).perm List.perm_middle.symm)
          exact ⟨I', _, vs, _, _, _, hle.trans hI', rfl, hst', hr', by
            have h := hrec [] at1 nx1 (.stop hfr (by omega))
            rwa [List.append_nil] at h⟩
        · have hb52p := hb52; (try simp only [dY, dF] at hb52p); refine DRW.q_on rfl rfl rfl rfl hb52 rfl (fun w' hF => runs_fieldAddr0 rfl Tryz.underlying124 rfl ti3 (by decide)) ?_; refine DRW.q_on rfl rfl rfl rfl hb52 rfl (FSt.load1_own sc3 rfl (k := 0) rfl rfl) ?_; refine DRW.q_on rfl rfl rfl rfl hb52 rfl (fun w' hF => runs_move rfl) ?_; refine DRW.q_on rfl rfl rfl rfl hb52 rfl (fun w' hF => runs_nilCheck rfl) ?_; refine DRW.q_on rfl rfl rfl rfl hb52 rfl (fun w' hF => runs_fieldAddr0 rfl Tryz.underlying92 rfl ti88 (by decide)) ?_; refine DRW.q_on rfl rfl rfl rfl hb52 rfl (fun w' hF => runs_fieldAddr0 rfl Tryz.underlying88 rfl ti3 (by decide)) ?_; refine DRW.q_on rfl rfl rfl rfl hb52 rfl (FSt.load1_own sc3 rfl (k := 1) rfl rfl) ?_; refine DRW.q_on rfl rfl rfl rfl hb52 rfl (fun w' hF => runs_gtr rfl rfl) ?_; refine DRW.q rfl rfl (fun w' hF => runs_pick_false rfl hb52 rfl) ?_; refine DRW.done <| za <| zb rfl (fun hc61 => ?_) (fun hc61 => ?_)
          · have hcb61 := hc61; (try simp only [dY, dF] at hc61); refine zR <| zm rfl rfl <| zS rfl rfl <| zM <| CW.ret <| zr <| AQ.block_ret <| zr <| AQ.block_ret <| z9 rfl rfl ?_; obtain ⟨I', vs, hI', hst', hr'⟩ := GrowR.freeze hgr ((hst.drop1).perm List.perm_middle.symm)
            exact ⟨I', _, vs, _, _, _, hle.trans hI', rfl, hst', hr', by
              have h := hrec [] at1 nx1 (.stop hfr (by omega))
              rwa [List.append_nil] at h⟩
          · have hcb61 := hc61; (try simp only [dY, dF] at hc61)
            have hin : er = 0 ∧ mq = nx1 ∧ least ≤ me ∧ me ≤ G.s.e := by omega
            obtain ⟨rfl, rfl, hlm, hme⟩ := hin; have hfo := frr_ok hok hfr; refine zj <| za <| zR <| zm rfl rfl <| zm rfl rfl <| zK rfl call70 rfl rfl (clone_spec hst hrb (by omega)) ?_; clear hst; rintro e w ⟨I12, vC, hI12, rfl, hst, hC⟩; replace hgr := hgr.mono hI12; replace hrb := hrb.mono hI12; replace hle := hle.trans hI12; refine ⟨_, rfl, ?_⟩; refine ze rfl (runs_lit1R (xs := [vC]) Tryz.underlying64 ti52 (by decide) rfl rfl rfl (by simpa using hC.one) hst) ?_; clear hst; rintro u13 w ⟨I13, hI13, hst, h13⟩; replace hgr := hgr.mono hI13; replace hrb := hrb.mono hI13; replace hC := hC.mono hI13; replace hle := hle.trans hI13; refine ze rfl (runs_appendRow Tryz.underlying64 ti52 rfl rfl rfl (hst.perm (perm_two2 _ _ Lo (Ld ++ L))) hgr (by assumption) hC (by omega) (by unfold maxLen; omega)) ?_; clear hst; rintro u14 w ⟨Lv14, hst, hg14⟩; have hgr2 := hg14; replace hst := hst.perm (perm_two2 _ _ Lv14 (Ld ++ L)).symm; refine zS rfl rfl <| zM ?_; refine CW.draw (FSt w0 I13 ((bm, .cells #[.int .i64 me, .int .i64 mq] 124) :: (Lv14 ++ (Ld ++ L)))) (.q 0 (.q 1 (.q 2 (.q 3 (.q 4 (.q 5 (.q 6 (.q 7 (.l 8 (.q 9 (.q 10 (.q 11 (.q 12 (.l 13 (.q 14 (.q 15 (.l 16 .nil))))))))))))))))) follows (by kernel_rfl) ⟨_, Imm.le.refl _, hst.draw.sub ((List.sublist_cons_self _ _).cons_cons _)⟩ ?_; replace hst := hst.draw; refine ym rfl rfl rfl <| ym rfl rfl rfl <| yp rfl rfl rfl U124 rfl ti3 rfl <| yl 0 rfl rfl sc3 rfl rfl rfl <| ym rfl rfl rfl <| ym rfl rfl rfl <| yc rfl rfl rfl <| yp rfl rfl rfl U92 rfl ti3 rfl <| DRW.op1 rfl rfl (runs_load1 sc3 rfl (hst.cell_own (k := 1) rfl rfl)) (FSt.of hst (Imm.le.refl _) ((List.sublist_cons_self _ _).cons_cons _)) ?_; refine DRW.q rfl rfl (fun w' hF => runs_add rfl rfl (by omega)) ?_; refine yS rfl rfl rfl <| yc rfl rfl rfl <| yp rfl rfl rfl U92 rfl ti3 rfl <| y0 rfl (runs_store1P ti3 rfl rfl hst (k := 1) rfl rfl (NoFz.zero _) rfl) ?_; clear hst; rintro w hst; (try simp only [sZ, sS] at hst); refine ⟨FSt.of hst (Imm.le.refl _) ((List.sublist_cons_self _ _).cons_cons _), ?_⟩; refine yc rfl rfl rfl <| yp rfl rfl rfl U92 rfl ti3 rfl <| y0 rfl (runs_store1P ti3 rfl rfl hst (k := 1) rfl rfl (NoFz.zero _) rfl) ?_; clear hst; rintro w hst; (try simp only [sZ, sS] at hst); refine ⟨FSt.of hst (Imm.le.refl _) ((List.sublist_cons_self _ _).cons_cons _), ?_⟩; refine DRW.done <| zh ?_
            exact AQ.again (x := (done, least, at1, mq, IK, vo, Lo)) (done ++ [rb], me, nxt, mq + 1, _, _, Lv14) ⟨hle, hst.drop1, hgr2, fun bs a n h => by
              rw [List.append_assoc]
              exact hrec _ a n (.step hfr hlm hme h), by dsimp only; rw [List.length_append]; simp only [List.length_cons, List.length_nil]; omega⟩ ⟨rfl, rfl, rfl, trivial⟩ (by dsimp only; omega)
def SlotOk (s : Slot) : Prop := 0 ≤ s.n ∧ s.n < 16777216 ∧ 0 ≤ s.e ∧ s.e < 65536 ∧ 0 ≤ s.h ∧ s.h ≤ 1 ∧ 0 ≤ s.f ∧ s.f < 16777216 ∧ 0 ≤ s.b ∧ s.b < 65536
theorem slotAt_ok {x : List UInt8} {s : Slot} (h : slotAt x = some s) : SlotOk s := by
  unfold slotAt at h
  split at h
  · rename_i hs
    simp only [isSlot, Bool.and_eq_true, decide_eq_true_eq] at hs
    obtain rfl : slotOf (openR x) = s := Option.some.inj h; have h1 := openR_rng x; have b0 := bat_lt (openR x).b 0; have b1 := bat_lt (openR x).b 1; have b2 := bat_lt (openR x).b 2; have b3 := bat_lt (openR x).b 3; have b4 := bat_lt (openR x).b 4; have b5 := bat_lt (openR x).b 5; unfold slotOf SlotOk; dsimp only; omega
  · cases h
theorem newest_ok {S : DS} (h : (newestR S).2 = 0) : SlotOk (newestR S).1 := by
  unfold newestR at h ⊢
  split
  · rename_i hd
    rw [if_pos hd] at h
    cases h
  · rename_i hd
    rw [if_neg hd] at h
    split
    · rename_i hl
      rw [if_pos hl] at h
      cases h
    · rename_i hl
      rw [if_neg hl] at h
      cases h0 : slotAt (readR S 0) with
      | none => cases h1 : slotAt (readR S 1) with
        | none => rw [h0, h1] at h; cases h
        | some y => exact slotAt_ok h1
      | some x => cases h1 : slotAt (readR S 1) with
        | none => exact slotAt_ok h0
        | some y =>
          show SlotOk (match (if y.n > x.n then some y else some x) with | some s => (s, (0 : Int)) | none => (slot0, 3)).1
          by_cases hc : y.n > x.n
          · rw [if_pos hc]; exact slotAt_ok h1
          · rw [if_neg hc]; exact slotAt_ok h0
def Slot.up (s : Slot) : Slot := ⟨s.n + 1, s.e + 1, s.h, s.f, s.b⟩
def G0 : LG := ⟨slot0, 0, 0, 0⟩
inductive OpnR (S : DS) : DS → Int → LG → List (List UInt8) → Prop
  | len : (S.secs.length : Int) ≠ 514 → OpnR S S 1 G0 []
  | none : (S.secs.length : Int) = 514 → (newestR S).2 ≠ 0 → OpnR S S (newestR S).2 G0 []
  | st1 : (S.secs.length : Int) = 514 → (newestR S).2 = 0 → (storeR S (newestR S).1).2 ≠ 0 → OpnR S (storeR S (newestR S).1).1 (storeR S (newestR S).1).2 G0 []
  | full : (S.secs.length : Int) = 514 → (newestR S).2 = 0 → (storeR S (newestR S).1).2 = 0 → (newestR S).1.e = 65535 → OpnR S (storeR S (newestR S).1).1 5 G0 []
  | st2 : (S.secs.length : Int) = 514 → (newestR S).2 = 0 → (storeR S (newestR S).1).2 = 0 → (newestR S).1.e ≠ 65535 → (storeR (storeR S (newestR S).1).1 (newestR S).1.up).2 ≠ 0 → OpnR S (storeR (storeR S (newestR S).1).1 (newestR S).1.up).1 (storeR (storeR S (newestR S).1).1 (newestR S).1.up).2 G0 []
  | ok {bs : List (List UInt8)} {a n : Int} : (S.secs.length : Int) = 514 → (newestR S).2 = 0 → (storeR S (newestR S).1).2 = 0 → (newestR S).1.e ≠ 65535 → (storeR (storeR S (newestR S).1).1 (newestR S).1.up).2 = 0 →
    Recs S (beginR (newestR S).1.h + 256) (newestR S).1.e (newestR S).1.b (beginR (newestR S).1.h) (newestR S).1.f bs a n → OpnR S (storeR (storeR S (newestR S).1).1 (newestR S).1.up).1 0 ⟨(newestR S).1.up, a, n, 0⟩ bs
theorem flushR_pend (S : DS) : (flushR S).1.pend.length ≤ S.pend.length := by
  unfold flushR
  split
  · exact Nat.le_refl _
  · exact Nat.zero_le _
theorem storeR_pend (S : DS) (s : Slot) : (storeR S s).1.pend.length ≤ S.pend.length + 1 := by
  unfold storeR; have h1 := writeR_pend S (s.n.tmod 2) (slotX s); have h2 := flushR_pend (writeR S (s.n.tmod 2) (slotX s)).1
  split
  · dsimp only; omega
  · split
    · omega
    · omega
def OpenV (I : Imm) (d : Value) (er : Int) (G : LG) (bs : List (List UInt8)) (x y : Value) (Lo : Own) : Prop :=
  (er ≠ 0 ∧ x = .pointer none ∧ y = .slice none 0 0 ∧ Lo = []) ∨ (er = 0 ∧ ∃ lb vs, x = .pointer (some ⟨lb, 0, none⟩) ∧ Lo = [(lb, .cells (logV d G).toArray 92)] ∧ RdR I y vs bs)
set_option maxRecDepth 100000 in
set_option maxHeartbeats 1000000 in
theorem open_log {w0 w : World} {I : Imm} {L Ld : Own} {d : Value} {S : DS} (hd : DiskO d S Ld) (hst : St w0 w I (Ld ++ L)) (hpn : S.pend.length ≤ 900000) :
    Calls Tryz.prog 27 #[d] w fun e w' => ∃ I' Ld' Lo x y S' er G bs, Imm.le I I' ∧ e = .returned (.tuple #[x, y, .int .i64 er]) ∧ St w0 w' I' (Lo ++ (Ld' ++ L)) ∧ DiskO d S' Ld' ∧ OpenV I' d er G bs x y Lo ∧ OpnR S S' er G bs := by
  obtain ⟨hb, rfl⟩ : ∃ hb, d = .pointer (some ⟨hb, 0, none⟩) := by
    obtain ⟨hb, _, _, _, _, h, _⟩ := hd; exact ⟨hb, h⟩
  refine enter Tryz.func27 rfl (N := 64) rfl rfl ?_
  simp only [zA, zB, zC, zD, zE, Nat.reduceAdd]
  have hle := Imm.le.refl I; refine zR <| zS rfl rfl <| zS rfl rfl <| zS rfl rfl <| zM <| zk <| zR <| zm rfl rfl <| zK rfl call39 rfl rfl (fits_spec hd hst) ?_; clear hst; rintro e w ⟨rfl, hst⟩; refine ⟨_, rfl, ?_⟩; refine z1 rfl (runs_not rfl) <| zM <| zb rfl (fun hc10 => ?_) (fun hc10 => ?_)
  · have hcb10 := hc10; (try simp only [dY, dF] at hc10); refine zR <| zS rfl rfl <| zS rfl rfl <| zS rfl rfl <| zM <| CW.ret <| zr <| AQ.retL (rs := [.tmp 2, .tmp 3, .tmp 4]) (vs := [_, _, _]) rfl ⟨rfl, rfl, rfl, trivial⟩ (by simp) ?_; exact ⟨_, Ld, [], _, _, S, 1, G0, [], hle, rfl, hst, hd, .inl ⟨by decide, rfl, rfl, rfl⟩, .len (by simpa using hc10)⟩
  · have hcb10 := hc10; (try simp only [dY, dF] at hc10)
    have hlen : (S.secs.length : Int) = 514 := by simpa using hc10
    refine zj <| za <| zR <| zm rfl rfl <| zK rfl call44 rfl rfl (newest_spec hd hst) ?_; clear hst; rintro e w ⟨I2, hI2, rfl, hst⟩; obtain ⟨s, hs⟩ : ∃ s, (newestR S).1 = s := ⟨_, rfl⟩
    have hnn : OpnR S S (newestR S).2 G0 [] ∨ (newestR S).2 = 0 := by
      by_cases h : (newestR S).2 = 0
      · exact .inr h
      · exact .inl (.none hlen h)
    have hso := newest_ok (S := S); have h1 := OpnR.st1 (S := S) hlen; have h2 := OpnR.full (S := S) hlen; have h3 := OpnR.st2 (S := S) hlen
    have h4 := fun bs a n => OpnR.ok (S := S) (bs := bs) (a := a) (n := n) hlen
    rw [hs] at h1 h2 h3 h4 hso ⊢; replace hle := hle.trans hI2; refine ⟨_, rfl, ?_⟩; refine zm rfl rfl <| zx rfl rfl rfl <| zx rfl rfl rfl <| ze rfl (runs_alloc ti88 hst) ?_; clear hst; rintro _ w ⟨b3, rfl, hst⟩; refine zw 0 ti88 rfl rfl hst rfl rfl rfl rfl ?_; clear hst; rintro w hst; (try simp only [sZ, sS] at hst); refine zS rfl rfl <| zM <| zk <| zR <| zm rfl rfl <| z1 rfl (runs_neI rfl rfl) <| zM <| zb rfl (fun hc17 => ?_) (fun hc17 => ?_)
    · have hcb17 := hc17; (try simp only [dY, dF] at hc17); refine zR <| zm rfl rfl <| zS rfl rfl <| zS rfl rfl <| zS rfl rfl <| zM <| CW.ret <| zr <| AQ.retL (rs := [.tmp 2, .tmp 3, .tmp 4]) (vs := [_, _, _]) rfl ⟨rfl, rfl, rfl, trivial⟩ (by simp) ?_; exact ⟨_, Ld, [], _, _, S, _, G0, [], hle, rfl, hst.drop1, hd, .inl ⟨by simpa using hc17, rfl, rfl, rfl⟩, hnn.resolve_right (by simpa using hc17)⟩
    · have hcb17 := hc17; (try simp only [dY, dF] at hc17)
      have hz : (newestR S).2 = 0 := by simpa using hc17
      replace h1 := h1 hz; replace h2 := h2 hz; replace h3 := h3 hz
      replace h4 := fun bs a n => h4 bs a n hz
      replace hso := hso hz; have hso2 := hso; unfold SlotOk at hso2; have hbe : beginR s.h = 2 + s.h * 256 := rfl; refine zj <| za <| zk ?_; refine CW.drawSt hst (.q 0 (.q 1 (.q 2 (.q 3 (.q 5 (.q 6 (.l 4 (.q 7 (.l 8 (.q 9 .nil)))))))))) follows (by kernel_rfl) (fun w hst => ?_); refine ym rfl rfl rfl <| DRW.q rfl rfl (FSt.loadN (vs := [_, _, _, _, _]) ag88 ti88 rfl (k := 0) rfl rfl rfl) ?_; refine yp rfl rfl rfl U88 rfl ti3 rfl <| yl 0 rfl rfl sc3 rfl rfl rfl <| yp rfl rfl rfl U88 rfl ti3 rfl <| yl 0 rfl rfl sc3 rfl rfl rfl <| yC rfl rfl call45 rfl rfl (begin_spec hst s.h (by omega)) ?_; clear hst; rintro e w ⟨rfl, hst⟩; refine ⟨_, rfl, FSt.ofA hst (Imm.le.refl _), ?_⟩; refine DRW.q rfl rfl (fun w' hF => runs_buildF (cells := [_, _, _, _, _, _, _, _, _]) bz92 rfl rfl rfl rfl rfl) ?_; refine DRW.opE rfl rfl (runs_box rfl hst) ?_; clear hst; rintro _ w ⟨b6, rfl, hst⟩; refine ⟨FSt.ofA hst (Imm.le.refl _), ?_⟩; refine yS rfl rfl rfl <| DRW.done <| za <| zR <| zm rfl rfl <| zK rfl call46 rfl rfl (records_spec (G := ⟨s, beginR s.h, s.f, 0⟩) hd (hst.perm (List.perm_middle.symm.cons _)) (by dsimp only; omega) (by dsimp only; omega) (by dsimp only; omega)) ?_; clear hst; rintro e w ⟨I7, vr, vs, bs, ra, rn, hI7, rfl, hst, hrr, hrecs⟩; replace hst := hst.perm (List.perm_middle.cons _); replace hle := hle.trans hI7; refine ⟨_, rfl, ?_⟩; refine zS rfl rfl <| zM <| zk <| zR <| zm rfl rfl <| z1 rfl (runs_loadN (vs := [_, _, _, _, _]) ag88 ti88 rfl hst (k := 1) rfl rfl rfl) ?_; refine zK rfl call43 rfl rfl (store_spec hd (hst.perm (perm_two2 _ _ Ld L)) s (by unfold i64ok; omega) (by omega)) ?_; clear hst; rintro e w ⟨I8, Ld1, hI8, rfl, hst, hd1⟩; replace hst := hst.perm (perm_two2 _ _ Ld1 L).symm; have hp1 := storeR_pend S s; replace hrr := hrr.mono hI8; replace hle := hle.trans hI8; refine ⟨_, rfl, ?_⟩; refine zS rfl rfl <| zN <| zm rfl rfl <| z1 rfl (runs_neI rfl rfl) <| zM <| zb rfl (fun hc34 => ?_) (fun hc34 => ?_)
      · have hcb34 := hc34; (try simp only [dY, dF] at hc34); refine zR <| zm rfl rfl <| zS rfl rfl <| zS rfl rfl <| zS rfl rfl <| zM <| CW.ret <| zr <| AQ.retL (rs := [.tmp 2, .tmp 3, .tmp 4]) (vs := [_, _, _]) rfl ⟨rfl, rfl, rfl, trivial⟩ (by simp) ?_; exact ⟨_, Ld1, [], _, _, _, _, G0, [], hle, rfl, hst.drop1.drop1, hd1, .inl ⟨by simpa using hc34, rfl, rfl, rfl⟩, h1 (by simpa using hc34)⟩
      · have hcb34 := hc34; (try simp only [dY, dF] at hc34)
        have hz1 : (storeR S s).2 = 0 := by simpa using hc34
        replace h2 := h2 hz1; replace h3 := h3 hz1
        replace h4 := fun bs a n => h4 bs a n hz1
        refine zj <| za <| zk <| zR <| zp rfl rfl U88 rfl ti3 rfl <| zl 1 rfl sc3 rfl hst rfl rfl <| z1 rfl (runs_eqI rfl rfl) <| zM <| zb rfl (fun hc38 => ?_) (fun hc38 => ?_)
        · have hcb38 := hc38; (try simp only [dY, dF] at hc38); refine zR <| zS rfl rfl <| zS rfl rfl <| zS rfl rfl <| zM <| CW.ret <| zr <| AQ.retL (rs := [.tmp 2, .tmp 3, .tmp 4]) (vs := [_, _, _]) rfl ⟨rfl, rfl, rfl, trivial⟩ (by simp) ?_; exact ⟨_, Ld1, [], _, _, _, 5, G0, [], hle, rfl, hst.drop1.drop1, hd1, .inl ⟨by decide, rfl, rfl, rfl⟩, h2 hc38⟩
        · have hcb38 := hc38; (try simp only [dY, dF] at hc38); replace h3 := h3 hc38
          replace h4 := fun bs a n => h4 bs a n hc38
          refine zj <| za <| zk ?_; refine CW.draw (FSt w0 I8 ((b3, .cells (slotV s).toArray 88) :: (Ld1 ++ L))) (.q 0 (.q 1 (.q 2 (.q 3 (.q 4 (.q 5 (.q 6 (.q 7 (.q 8 (.q 9 (.q 10 (.l 11 (.q 12 (.q 13 (.q 14 (.l 15 .nil)))))))))))))))) follows (by kernel_rfl) ⟨_, Imm.le.refl _, hst.draw.drop1⟩ ?_; replace hst := hst.draw; refine ym rfl rfl rfl <| ym rfl rfl rfl <| yp rfl rfl rfl U88 rfl ti3 rfl <| yl 0 rfl rfl sc3 rfl rfl rfl <| DRW.q rfl rfl (fun w' hF => runs_add rfl rfl (by omega)) ?_; refine yp rfl rfl rfl U88 rfl ti3 rfl <| yl 0 rfl rfl sc3 rfl rfl rfl <| DRW.q rfl rfl (fun w' hF => runs_add rfl rfl (by omega)) ?_; refine yc rfl rfl rfl <| yp rfl rfl rfl U92 rfl ti88 rfl <| yp rfl rfl rfl U88 rfl ti3 rfl <| y0 rfl (runs_store1P ti3 rfl rfl hst (k := 0) rfl rfl (NoFz.zero _) rfl) ?_; clear hst; rintro w hst; (try simp only [sZ, sS] at hst); refine ⟨FSt.ofA hst (Imm.le.refl _), ?_⟩; refine yc rfl rfl rfl <| yp rfl rfl rfl U92 rfl ti88 rfl <| yp rfl rfl rfl U88 rfl ti3 rfl <| y0 rfl (runs_store1P ti3 rfl rfl hst (k := 0) rfl rfl (NoFz.zero _) rfl) ?_; clear hst; rintro w hst; (try simp only [sZ, sS] at hst); refine ⟨FSt.ofA hst (Imm.le.refl _), ?_⟩; refine DRW.done <| za <| zk <| zR <| zm rfl rfl <| zm rfl rfl <| z1 rfl (runs_nilCheck rfl) <| zp rfl rfl U92 rfl ti88 rfl <| z1 rfl (runs_loadN (vs := [_, _, _, _, _]) ag88 ti88 rfl hst (k := 0) rfl rfl rfl) ?_; refine zK rfl call43 rfl rfl (store_spec hd1 (hst.perm (perm_two2 _ _ Ld1 L)) s.up (by unfold i64ok Slot.up; dsimp only; omega) (by omega)) ?_; clear hst; rintro e w ⟨I11, Ld2, hI11, rfl, hst, hd2⟩; replace hst := hst.perm (perm_two2 _ _ Ld2 L).symm; replace hrr := hrr.mono hI11; replace hle := hle.trans hI11; refine ⟨_, rfl, ?_⟩; refine zS rfl rfl <| zN <| zm rfl rfl <| z1 rfl (runs_neI rfl rfl) <| zM <| zb rfl (fun hc60 => ?_) (fun hc60 => ?_)
          · have hcb60 := hc60; (try simp only [dY, dF] at hc60); refine zR <| zm rfl rfl <| zS rfl rfl <| zS rfl rfl <| zS rfl rfl <| zM <| CW.ret <| zr <| AQ.retL (rs := [.tmp 2, .tmp 3, .tmp 4]) (vs := [_, _, _]) rfl ⟨rfl, rfl, rfl, trivial⟩ (by simp) ?_; exact ⟨_, Ld2, [], _, _, _, _, G0, [], hle, rfl, hst.drop1.drop1, hd2, .inl ⟨by simpa using hc60, rfl, rfl, rfl⟩, h3 (by simpa using hc60)⟩
          · have hcb60 := hc60; (try simp only [dY, dF] at hc60); refine zj <| za <| zR <| zm rfl rfl <| zm rfl rfl <| zS rfl rfl <| zS rfl rfl <| zS rfl rfl <| zM <| CW.ret ?_; refine AQ.retL (rs := [.tmp 2, .tmp 3, .tmp 4]) (vs := [_, _, _]) rfl ⟨rfl, rfl, rfl, trivial⟩ (by simp) ?_; exact ⟨_, Ld2, [_], _, _, _, 0, ⟨s.up, ra, rn, 0⟩, bs, hle, rfl, hst.sub ((List.sublist_cons_self _ _).cons_cons _), hd2, .inr ⟨rfl, _, vs, rfl, rfl, hrr⟩, h4 bs ra rn (by simpa using hc60) hrecs⟩
def needS (bss : List (List UInt8)) : Nat := (bss.map fun b => needN b.length).sum
def BOk (bss : List (List UInt8)) : Prop := bss.length ≤ 1000 ∧ ∀ b ∈ bss, b.length ≤ 100000
theorem BOk.at {bss : List (List UInt8)} (h : BOk bss) (k : Nat) : (bss.getD k []).length ≤ 100000 := by
  by_cases hk : k < bss.length
  · rw [List.getD_eq_getElem?_getD, List.getElem?_eq_getElem hk]; exact h.2 _ (List.getElem_mem hk)
  · rw [List.getD_eq_getElem?_getD, List.getElem?_eq_none (by omega)]; exact Nat.zero_le _
theorem needN_le {b : List UInt8} (h : b.length ≤ 100000) : needN b.length ≤ 5300 := by unfold needN; omega
theorem needS_take {bss : List (List UInt8)} {k : Nat} (hk : k < bss.length) : needS (bss.take (k + 1)) = needS (bss.take k) + needN (bss.getD k []).length := by
  unfold needS; rw [List.take_add_one, List.getElem?_eq_getElem hk, Option.toList_some, List.map_append, List.sum_append, List.getD_eq_getElem?_getD, List.getElem?_eq_getElem hk]
  simp
theorem needS_le {bss : List (List UInt8)} (h : BOk bss) : ∀ k, k ≤ bss.length → needS (bss.take k) ≤ 5300 * k
  | 0, _ => Nat.le_refl _
  | k + 1, hk => by
    rw [needS_take (by omega)]; have := needS_le h k (by omega); have := needN_le (h.at k); omega
def mayL (G : LG) (room : Int) (bss : List (List UInt8)) : Int :=
  if G.bad ≠ 0 then G.bad else if room < (needS bss : Nat) ∨ 16777215 < G.nx + (bss.length : Nat) - 1 then 5 else if (bss.any fun b => decide (255 < needN b.length)) = true then 1 else 0
theorem getD_mem {bss : List (List UInt8)} {k : Nat} (hk : k < bss.length) : bss.getD k [] ∈ bss := by
  rw [List.getD_eq_getElem?_getD, List.getElem?_eq_getElem hk]; exact List.getElem_mem hk
theorem all_any {bss : List (List UInt8)} (h : ∀ j, j < bss.length → needN (bss.getD j []).length ≤ 255) : (bss.any fun b => decide (255 < needN b.length)) = false := by
  rw [List.any_eq_false]; intro b hb; obtain ⟨j, hj, rfl⟩ := List.getElem_of_mem hb; have := h j hj; rw [List.getD_eq_getElem?_getD, List.getElem?_eq_getElem hj] at this
  simpa using this
set_option maxRecDepth 100000 in
set_option maxHeartbeats 1000000 in
theorem may_log {w0 w : World} {I : Imm} {L : Own} {d : Value} {lb : Nat} {G : LG} (hst : St w0 w I ((lb, .cells (logV d G).toArray 92) :: L)) {v : Value} {vs : List Value} {bss : List (List UInt8)} (hv : RdR I v vs bss) (hbs : BOk bss) (hn : 0 ≤ G.nx ∧ G.nx ≤ 16777216) (room : Int) :
    Calls Tryz.prog 78 #[.pointer (some ⟨lb, 0, none⟩), .int .i64 room, v] w fun e w' => e = .returned (.int .i64 (mayL G room bss)) ∧ St w0 w' I ((lb, .cells (logV d G).toArray 92) :: L) := by
  have hvl := hv.2.1; have hbl := hbs.1; refine enter Tryz.func78 rfl (N := 56) rfl rfl ?_
  simp only [zA, zB, zC, zD, zE, Nat.reduceAdd]
  have hle := Imm.le.refl I; refine zR <| zS rfl rfl <| zM <| zk <| zR <| zm rfl rfl <| z1 rfl (runs_nilCheck rfl) <| zp rfl rfl U92 rfl ti25 rfl <| zl 0 rfl sc25 rfl hst rfl rfl <| z1 rfl (runs_neI rfl rfl) ?_; refine zM ?_; refine zb rfl (fun hc16 => ?_) (fun hc16 => ?_)
  · have hcb16 := hc16; (try simp only [dY, dF] at hc16); refine zR <| zm rfl rfl <| z1 rfl (runs_nilCheck rfl) <| zp rfl rfl U92 rfl ti25 rfl <| zl 0 rfl sc25 rfl hst rfl rfl <| zS rfl rfl <| zM <| CW.ret <| zr <| z9 rfl rfl ?_; have hm : mayL G room bss = G.bad := if_pos (by simpa using hc16); rw [hm]; exact ⟨rfl, hst⟩
  · have hcb16 := hc16; (try simp only [dY, dF] at hc16)
    have hb0 : ¬ G.bad ≠ 0 := by simpa using hc16
    refine zj <| za <| zR <| zS rfl rfl <| zM <| zk <| zR <| zm rfl rfl <| z1 rfl (RdL.len Tryz.underlying64 rfl hv.1) <| zm rfl rfl ?_; refine zM <| CW.block ?_; refine CW.loop Nat (fun k w => St w0 w I ((lb, .cells (logV d G).toArray 92) :: L) ∧ k ≤ vs.length) (fun k => [(0, .pointer (some ⟨lb, 0, none⟩)), (1, .int .i64 room), (2, v), (7, .int .i64 ((needS (bss.take k) : Nat) : Int)), (21, v), (22, .int .i64 (vs.length : Nat)), (23, .int .i64 (k : Int))]) (fun k => vs.length - k) ⟨0, ⟨hst, Nat.zero_le _⟩, ⟨rfl, rfl, rfl, rfl, rfl, rfl, rfl, trivial⟩⟩ ?_; clear hst; rintro k w ⟨hst, hk⟩; have hns := needS_le hbs k (by omega); refine zR <| z1 rfl (runs_lss rfl rfl) <| zM <| zk <| zb rfl (fun hc24 => ?_) (fun hc24 => ?_)
    · have hcb24 := hc24; (try simp only [dY, dF] at hc24)
      have hk1 : k < vs.length := by omega
      have hn1 := needN_le (hbs.at k); have hnt := needS_take (bss := bss) (k := k) (by omega); refine zj <| za <| zk <| CW.block <| zR <| z1 rfl (RdL.indexAddr Tryz.underlying64 ti52 (by decide) rfl rfl hv.1 (by omega)) ?_; refine z1 rfl (runs_load1 sc52 rfl (hst.cell_imm (RdR.at hv (by omega) (by omega)))) ?_; refine zS rfl rfl <| zM <| zg <| zm rfl rfl <| zm rfl rfl <| zK rfl call112 rfl rfl (need_spec hst (hv.row (i := k) hk1) (by have := hbs.at k; omega)) ?_; clear hst; rintro e w ⟨rfl, hst⟩; refine ⟨_, rfl, ?_⟩; refine z1 rfl (runs_add rfl rfl (by omega)) ?_; refine zS rfl rfl <| zd <| zh <| za <| zg <| z1 rfl (runs_add rfl rfl (by omega)) ?_; refine zm rfl rfl <| zd ?_; exact AQ.again (x := k) (k + 1) ⟨hst, by omega⟩ ⟨rfl, rfl, rfl, by rw [hnt]; exact congrArg (fun x => some (Value.int .i64 x)) (by omega), rfl, rfl, rfl, trivial⟩ (by omega)
    · have hcb24 := hc24; (try simp only [dY, dF] at hc24); have hke : bss.take k = bss := List.take_of_length_le (by omega); rw [hke] at hns ⊢; refine CW.exit ?_; refine AQ.past_exit <| AQ.past_exit <| AQ.block_hit <| za <| zk <| zR <| zm rfl rfl <| zm rfl rfl <| z1 rfl (runs_gtr rfl rfl) <| zm rfl rfl ?_; refine zi (t := 35) rfl (fun hb35 => ?_) (fun hb35 => ?_)
      · have hb35p := hb35; (try simp only [dY, dF] at hb35p); refine zH rfl rfl rfl rfl rfl rfl rfl rfl hb35 <| zH rfl rfl rfl rfl rfl rfl rfl rfl hb35 <| zH rfl rfl rfl rfl rfl rfl rfl rfl hb35 <| zt rfl rfl hb35 rfl <| zM <| CW.cond_true rfl ?_; refine zR <| zS rfl rfl <| zM <| CW.ret <| zr <| z9 rfl rfl ?_
        have hm : mayL G room bss = 5 := by unfold mayL; rw [if_neg hb0, if_pos (by omega)]
        rw [hm]; exact ⟨rfl, hst⟩
      · have hb35p := hb35; (try simp only [dY, dF] at hb35p); refine zo rfl rfl rfl rfl hb35 <| zm rfl rfl <| zo rfl rfl rfl rfl hb35 <| z1 rfl (runs_nilCheck rfl) <| zo rfl rfl rfl rfl hb35 <| zp rfl rfl U92 rfl ti3 rfl <| zo rfl rfl rfl rfl hb35 <| zl 0 rfl sc3 rfl hst rfl rfl <| zo rfl rfl rfl rfl hb35 <| zm rfl rfl ?_; refine zo rfl rfl rfl rfl hb35 <| z1 rfl (RdL.len Tryz.underlying64 rfl hv.1) <| zo rfl rfl rfl rfl hb35 ?_; refine z1 rfl (runs_add rfl rfl (by omega)) ?_; refine zo rfl rfl rfl rfl hb35 <| z1 rfl (runs_sub rfl rfl (by omega)) ?_; refine zo rfl rfl rfl rfl hb35 <| z1 rfl (runs_gtr rfl rfl) <| zn rfl rfl hb35 rfl <| zM <| zb rfl (fun hc45 => ?_) (fun hc45 => ?_)
        · have hcb45 := hc45; (try simp only [dY, dF] at hc45); refine zR <| zS rfl rfl <| zM <| CW.ret <| zr <| z9 rfl rfl ?_
          have hm : mayL G room bss = 5 := by unfold mayL; rw [if_neg hb0, if_pos (by omega)]
          rw [hm]; exact ⟨rfl, hst⟩
        · have hcb45 := hc45; (try simp only [dY, dF] at hc45)
          have hno : ¬ (room < (needS bss : Nat) ∨ 16777215 < G.nx + (bss.length : Nat) - 1) := by omega
          refine zj <| za <| zk <| zR <| zm rfl rfl <| z1 rfl (RdL.len Tryz.underlying64 rfl hv.1) <| zm rfl rfl <| zM <| CW.block <| CW.loop Nat (fun k w => St w0 w I ((lb, .cells (logV d G).toArray 92) :: L) ∧ k ≤ vs.length ∧ ∀ j, j < k → needN (bss.getD j []).length ≤ 255) (fun k => [(0, .pointer (some ⟨lb, 0, none⟩)), (46, v), (47, .int .i64 (vs.length : Nat)), (48, .int .i64 (k : Int))]) (fun k => vs.length - k) ⟨0, ⟨hst, Nat.zero_le _, fun j h => absurd h (Nat.not_lt_zero _)⟩, ⟨rfl, rfl, rfl, rfl, trivial⟩⟩ ?_; clear hst; rintro q w ⟨hst, hk, hall⟩; refine zR <| z1 rfl (runs_lss rfl rfl) <| zM <| zk <| zb rfl (fun hc49 => ?_) (fun hc49 => ?_)
          · have hcb49 := hc49; (try simp only [dY, dF] at hc49)
            have hk1 : q < vs.length := by omega
            have hn1 := needN_le (hbs.at q); refine zj <| za <| zk <| CW.block <| zR <| z1 rfl (RdL.indexAddr Tryz.underlying64 ti52 (by decide) rfl rfl hv.1 (by omega)) ?_; refine z1 rfl (runs_load1 sc52 rfl (hst.cell_imm (RdR.at hv (by omega) (by omega)))) ?_; refine zS rfl rfl <| zN <| zm rfl rfl <| zK rfl call112 rfl rfl (need_spec hst (hv.row (i := q) hk1) (by have := hbs.at q; omega)) ?_; clear hst; rintro e w ⟨rfl, hst⟩; refine ⟨_, rfl, ?_⟩; refine z1 rfl (runs_gtr rfl rfl) <| zM <| zb rfl (fun hc54 => ?_) (fun hc54 => ?_)
            · have hcb54 := hc54; (try simp only [dY, dF] at hc54); refine zR <| zS rfl rfl <| zM <| CW.ret <| AQ.block_ret <| zr <| zr <| AQ.block_ret <| zr <| z9 rfl rfl ?_
              have hm : mayL G room bss = 1 := by
                unfold mayL; rw [if_neg hb0, if_neg hno, if_pos]; rw [List.any_eq_true]; exact ⟨_, getD_mem (k := q) (by omega), by simp only [decide_eq_true_eq]; omega⟩
              rw [hm]; exact ⟨rfl, hst⟩
            · have hcb54 := hc54; (try simp only [dY, dF] at hc54); refine zj <| zh <| za <| zg <| z1 rfl (runs_add rfl rfl (by omega)) ?_; refine zm rfl rfl <| zd ?_
              exact AQ.again (x := q) (q + 1) ⟨hst, by omega, fun j hj => by
                by_cases h : j < q
                · exact hall j h
                · obtain rfl : j = q := by omega
                  omega⟩ ⟨rfl, rfl, rfl, rfl, trivial⟩ (by omega)
          · have hcb49 := hc49; (try simp only [dY, dF] at hc49); refine CW.exit ?_; refine AQ.past_exit <| AQ.past_exit <| AQ.block_hit <| za <| zR <| zS rfl rfl <| zM <| CW.ret <| z9 rfl rfl ?_
            have hm : mayL G room bss = 0 := by
              unfold mayL; rw [if_neg hb0, if_neg hno, all_any (fun j hj => hall j (by omega))]
              rfl
            rw [hm]; exact ⟨rfl, hst⟩
inductive WrR (e : Int) : DS → Int → Int → List (List UInt8) → DS → Int → Int → Prop
  | nil {S : DS} {at_ q : Int} : WrR e S at_ q [] (flushR S).1 at_ (flushR S).2
  | bad {S S' : DS} {at_ q next er : Int} {b : List UInt8} {bss : List (List UInt8)} : FwR S at_ e q b S' next er → er ≠ 0 → WrR e S at_ q (b :: bss) S' 0 er
  | step {S S1 S' : DS} {at_ q next a er : Int} {b : List UInt8} {bss : List (List UInt8)} : FwR S at_ e q b S1 next 0 → WrR e S1 next (q + 1) bss S' a er → WrR e S at_ q (b :: bss) S' a er
theorem fw_any {S S' : DS} {at_ e q next er : Int} {b : List UInt8} (h : FwR S at_ e q b S' next er) : S'.secs = S.secs ∧ S'.pend.length ≤ S.pend.length + 255 ∧ (er = 0 → 0 ≤ next ∧ next ≤ S.secs.length) := by
  replace h := h.out
  split at h
  · obtain ⟨rfl, rfl, rfl⟩ := h; exact ⟨rfl, by omega, fun h => by omega⟩
  · rename_i h1
    have hn : needN b.length ≤ 255 := by
      by_cases hn : 255 < needN b.length
      · exact absurd (.inr hn) h1
      · omega
    split at h
    · obtain ⟨rfl, rfl, rfl⟩ := h; exact ⟨rfl, by omega, fun h => by omega⟩
    · rcases h with ⟨_, rfl, rfl, rfl⟩ | ⟨k, hk, _, hne, rfl, rfl, rfl⟩
      · have := putTo_pend S at_ (secB e q b) (needN b.length); exact ⟨putTo_secs _ _ _ _, by omega, fun _ => by omega⟩
      · have := putTo_pend S at_ (secB e q b) (k + 1); exact ⟨putTo_secs _ _ _ _, by omega, fun h => absurd h hne⟩
theorem drop_getD {bss : List (List UInt8)} {k : Nat} (hk : k < bss.length) : bss.drop k = bss.getD k [] :: bss.drop (k + 1) := by
  rw [List.getD_eq_getElem?_getD, List.getElem?_eq_getElem hk]; exact List.drop_eq_getElem_cons hk
set_option maxRecDepth 100000 in
set_option maxHeartbeats 1000000 in
theorem lwrite_spec {w0 w : World} {I : Imm} {L Ld : Own} {d : Value} {S : DS} {lb : Nat} {G : LG} (hd : DiskO d S Ld) (hst : St w0 w I ((lb, .cells (logV d G).toArray 92) :: (Ld ++ L))) {v : Value} {vs : List Value} {bss : List (List UInt8)} (hv : RdR I v vs bss) (hbs : BOk bss) (hn : 0 ≤ G.nx ∧ G.nx ≤ 16777216) (at0 : Int) (ha : 0 ≤ at0 ∧ at0 ≤ 2000) (hpn : S.pend.length ≤ 600000) :
    Calls Tryz.prog 80 #[.pointer (some ⟨lb, 0, none⟩), .int .i64 at0, v] w fun r w' => ∃ I' Ld' S' a er, Imm.le I I' ∧ r = .returned (.tuple #[.int .i64 a, .int .i64 er]) ∧ St w0 w' I' ((lb, .cells (logV d G).toArray 92) :: (Ld' ++ L)) ∧ DiskO d S' Ld' ∧ WrR G.s.e S at0 G.nx bss S' a er := by
  have hvl := hv.2.1; have hbl := hbs.1
  have hok : DOk S := by obtain ⟨_, _, _, _, _, _, _, _, _, hok⟩ := hd; exact hok
  have hsl := hok.1; refine enter Tryz.func80 rfl (N := 52) rfl rfl ?_
  simp only [zA, zB, zC, zD, zE, Nat.reduceAdd]
  have hle := Imm.le.refl I; refine zR <| zS rfl rfl <| zS rfl rfl <| zM <| zk <| zR <| zm rfl rfl <| z1 rfl (RdL.len Tryz.underlying64 rfl hv.1) <| zm rfl rfl <| zM ?_; refine CW.block ?_
  refine CW.loop (Nat × DS × Int × Imm × Own) (fun x w => I.le x.2.2.2.1 ∧ St w0 w x.2.2.2.1 ((lb, .cells (logV d G).toArray 92) :: (x.2.2.2.2 ++ L)) ∧ DiskO d x.2.1 x.2.2.2.2 ∧ RdR x.2.2.2.1 v vs bss ∧ (x.1 ≤ vs.length ∧ x.2.1.pend.length ≤ S.pend.length + 255 * x.1 ∧ x.2.1.secs = S.secs ∧ 0 ≤ x.2.2.1 ∧ x.2.2.1 ≤ 2000) ∧ ∀ S' a er, WrR G.s.e x.2.1 x.2.2.1 (G.nx + (x.1 : Int)) (bss.drop x.1) S' a er → WrR G.s.e S at0 G.nx bss S' a er) (fun x => [(0, .pointer (some ⟨lb, 0, none⟩)), (1, .int .i64 x.2.2.1), (12, v), (13, .int .i64 (vs.length : Nat)), (14, .int .i64 (x.1 : Int))]) (fun x => vs.length - x.1) ⟨(0, S, at0, _, _), ⟨hle, hst, hd, hv, ⟨Nat.zero_le _, Nat.le_refl _, rfl, ha⟩, fun S' a er h => by
    rw [show G.nx + (((0 : Nat)) : Int) = G.nx by omega] at h
    exact h⟩, ⟨rfl, rfl, rfl, rfl, rfl, trivial⟩⟩ ?_
  clear hle hst hd hv; rintro ⟨k, S1, at1, I1, Ld1⟩ w ⟨hle, hst, hd, hv, ⟨hk, hp1, hs1, ha1⟩, hrec⟩; dsimp only at hle hst hd hv hk hp1 hs1 ha1 hrec ⊢; refine zR <| z1 rfl (runs_lss rfl rfl) <| zM <| zk <| zb rfl (fun hc15 => ?_) (fun hc15 => ?_)
  · have hcb15 := hc15; (try simp only [dY, dF] at hc15)
    have hk1 : k < vs.length := by omega
    have hdr := drop_getD (bss := bss) (k := k) (by omega); refine zj <| za <| zk <| CW.block <| zR <| zm rfl rfl <| z1 rfl (RdL.indexAddr Tryz.underlying64 ti52 (by decide) rfl rfl hv.1 (by omega)) ?_; refine z1 rfl (runs_load1 sc52 rfl (hst.cell_imm (RdR.at hv (by omega) (by omega)))) ?_; refine zS rfl rfl <| zS rfl rfl <| zM <| zk ?_; refine CW.draw (FSt w0 I1 ((lb, .cells (logV d G).toArray 92) :: L)) (.q 0 (.q 1 (.q 2 (.q 3 (.q 4 (.q 5 (.q 6 (.q 7 (.q 8 (.q 9 (.q 10 (.q 11 (.q 12 (.q 13 (.q 14 (.q 15 (.q 16 (.q 17 (.l 18 (.q 19 (.q 20 (.q 21 (.q 22 (.q 23 .nil)))))))))))))))))))))))) follows (by kernel_rfl) ⟨_, Imm.le.refl _, hst.draw.sub ((List.sublist_append_right _ _).cons_cons _)⟩ ?_; replace hst := hst.draw; refine ym rfl rfl rfl <| yc rfl rfl rfl <| yp rfl rfl rfl U92 rfl ti23 rfl <| yl 0 rfl rfl sc23 rfl rfl rfl <| ym rfl rfl rfl <| ym rfl rfl rfl <| yc rfl rfl rfl <| yp rfl rfl rfl U92 rfl ti88 rfl <| yp rfl rfl rfl U88 rfl ti3 rfl <| yl 0 rfl rfl sc3 rfl rfl rfl ?_; refine ym rfl rfl rfl <| yc rfl rfl rfl <| yp rfl rfl rfl U92 rfl ti3 rfl <| yl 0 rfl rfl sc3 rfl rfl rfl <| ym rfl rfl rfl ?_; refine DRW.q rfl rfl (fun w' hF => runs_add rfl rfl (by omega)) ?_; refine DRW.q rfl rfl (fun w' hF => runs_buildF (cells := [_, _]) bz124 rfl rfl rfl rfl rfl) ?_; refine ym rfl rfl rfl <| yC rfl rfl call119 rfl rfl (fwrite_spec hd (hst.perm List.perm_middle.symm) at1 G.s.e (G.nx + (k : Int)) (by unfold i64ok; omega) (hv.row (i := k) hk1) (hbs.at k) (by omega)) ?_; clear hst; rintro e w ⟨I1, Ld2, S2, nx2, er2, hI1, rfl, hst, hd2, hfw⟩; replace hst := hst.perm List.perm_middle; have hfa := fw_any hfw; replace hv := hv.mono hI1; replace hle := hle.trans hI1; refine ⟨_, rfl, FSt.of hst hI1 ((List.sublist_append_right _ _).cons_cons _), ?_⟩; refine ym rfl rfl rfl <| DRW.q rfl rfl (fun w' hF => runs_extract rfl rfl) ?_; refine DRW.q rfl rfl (fun w' hF => runs_extract rfl rfl) ?_; refine yS rfl rfl rfl <| yS rfl rfl rfl <| DRW.done <| za <| zk <| zR <| zm rfl rfl <| z1 rfl (runs_neI rfl rfl) <| zM <| zb rfl (fun hc42 => ?_) (fun hc42 => ?_)
    · have hcb42 := hc42; (try simp only [dY, dF] at hc42); refine zR <| zm rfl rfl <| zS rfl rfl <| zS rfl rfl <| zM <| CW.ret <| zr <| AQ.block_ret <| zr <| zr ?_; refine AQ.block_ret <| zr ?_; refine AQ.ret2 rfl rfl rfl ?_; exact ⟨_, Ld2, S2, 0, er2, hle, rfl, hst, hd2, hrec _ _ _ (by rw [hdr]; exact .bad hfw (by simpa using hc42))⟩
    · have hcb42 := hc42; (try simp only [dY, dF] at hc42)
      obtain rfl : er2 = 0 := by simpa using hc42
      have hfa2 := hfa.2.2 rfl; rw [hs1] at hfa hfa2; refine zj <| za <| zg <| zm rfl rfl <| zS rfl rfl <| zd <| zh <| za <| zg <| z1 rfl (runs_add rfl rfl (by omega)) ?_; refine zm rfl rfl <| zd ?_
      exact AQ.again (x := (k, S1, at1, I1, Ld1)) (k + 1, S2, nx2, _, Ld2) ⟨hle, hst, hd2, hv, ⟨by dsimp only; omega, by dsimp only; omega, hfa.1, by dsimp only; omega, by dsimp only; omega⟩, fun S' a er h => hrec _ _ _ (by
        rw [hdr]; refine .step hfw ?_; rw [show G.nx + (k : Int) + 1 = G.nx + (((k + 1 : Nat)) : Int) by omega]
        exact h)⟩ ⟨rfl, rfl, rfl, rfl, rfl, trivial⟩ (by dsimp only; omega)
  · have hcb15 := hc15; (try simp only [dY, dF] at hc15); have hde : bss.drop k = [] := List.drop_eq_nil_of_le (by omega); refine CW.exit ?_; refine AQ.past_exit <| AQ.past_exit <| AQ.block_hit <| za <| zR <| zm rfl rfl <| zm rfl rfl <| z1 rfl (runs_nilCheck rfl) <| zp rfl rfl U92 rfl ti23 rfl <| zl 0 rfl sc23 rfl hst rfl rfl ?_; refine zK rfl call42 rfl rfl (flush_spec hd (hst.perm List.perm_middle.symm)) ?_; clear hst; rintro e w ⟨Ld3, rfl, hst, hd3⟩; replace hst := hst.perm List.perm_middle; refine ⟨_, rfl, ?_⟩; refine zS rfl rfl <| zS rfl rfl <| zM <| CW.ret <| AQ.ret2 rfl rfl rfl ?_; exact ⟨_, Ld3, _, at1, _, hle, rfl, hst, hd3, hrec _ _ _ (by rw [hde]; exact .nil)⟩
theorem flush_len : ∀ (ps : List (Int × List UInt8)) (s : List (List UInt8)), (ps.foldl (fun s p => s.set p.1.toNat p.2) s).length = s.length
  | [], s => rfl
  | p :: r, s => by
    rw [List.foldl_cons, flush_len r]; exact List.length_set
def roomR (G : LG) : Int := beginR G.s.h + 256 - G.at_
def LG.ill (G : LG) (er : Int) : LG := { G with bad := er }
inductive ApR (S : DS) (G : LG) (b : List UInt8) : DS → LG → Int → Prop
  | may : mayL G (roomR G) [b] ≠ 0 → ApR S G b S G (mayL G (roomR G) [b])
  | bad {S' : DS} {a er : Int} : mayL G (roomR G) [b] = 0 → WrR G.s.e S G.at_ G.nx [b] S' a er → er ≠ 0 → ApR S G b S' (G.ill er) er
  | ok {S' : DS} {a : Int} : mayL G (roomR G) [b] = 0 → WrR G.s.e S G.at_ G.nx [b] S' a 0 → ApR S G b S' (G.to a (G.nx + 1)) 0
def turnS (G : LG) : Slot := ⟨G.s.n + 1, G.s.e, 1 - G.s.h, G.nx, G.s.e⟩
inductive TuR (S : DS) (G : LG) (bss : List (List UInt8)) : DS → LG → Int → Prop
  | may : mayL G 256 bss ≠ 0 → TuR S G bss S G (mayL G 256 bss)
  | full : mayL G 256 bss = 0 → (16777215 < G.s.n + 1 ∨ 16777215 < G.nx) → TuR S G bss S G 5
  | wr {S' : DS} {a er : Int} : mayL G 256 bss = 0 → ¬ (16777215 < G.s.n + 1 ∨ 16777215 < G.nx) → WrR G.s.e S (beginR (1 - G.s.h)) G.nx bss S' a er → er ≠ 0 → TuR S G bss S' (G.ill er) er
  | st {S1 : DS} {a : Int} : mayL G 256 bss = 0 → ¬ (16777215 < G.s.n + 1 ∨ 16777215 < G.nx) → WrR G.s.e S (beginR (1 - G.s.h)) G.nx bss S1 a 0 → (storeR S1 (turnS G)).2 ≠ 0 → TuR S G bss (storeR S1 (turnS G)).1 (G.ill (storeR S1 (turnS G)).2) (storeR S1 (turnS G)).2
  | ok {S1 : DS} {a : Int} : mayL G 256 bss = 0 → ¬ (16777215 < G.s.n + 1 ∨ 16777215 < G.nx) → WrR G.s.e S (beginR (1 - G.s.h)) G.nx bss S1 a 0 → (storeR S1 (turnS G)).2 = 0 → TuR S G bss (storeR S1 (turnS G)).1 ⟨turnS G, a, G.nx + (bss.length : Nat), G.bad⟩ 0
theorem wr_pend {e : Int} {S S' : DS} {at_ q a er : Int} {bss : List (List UInt8)} (h : WrR e S at_ q bss S' a er) : S'.secs.length = S.secs.length ∧ S'.pend.length ≤ S.pend.length + 255 * bss.length := by
  induction h with
  | nil =>
    rename_i S _ _
    refine ⟨?_, by have := flushR_pend S; omega⟩; unfold flushR
    split
    · rfl
    · dsimp only; exact flush_len _ _
  | bad h _ =>
    have := fw_any h; exact ⟨by rw [this.1], by rw [List.length_cons]; omega⟩
  | step h _ ih =>
    have := fw_any h; exact ⟨by rw [ih.1, this.1], by rw [List.length_cons]; omega⟩
theorem perm_in3 {α : Type} (x y : α) (A B : List α) : (x :: y :: (A ++ B)).Perm (y :: (A ++ (x :: B))) := (List.Perm.swap _ _ _).trans (List.perm_middle.symm.cons _)
set_option maxRecDepth 100000 in
set_option maxHeartbeats 1000000 in
theorem append_log {w0 w : World} {I : Imm} {L Ld : Own} {d : Value} {S : DS} {lb : Nat} {G : LG} (hd : DiskO d S Ld) (hst : St w0 w I ((lb, .cells (logV d G).toArray 92) :: (Ld ++ L))) {vb : Value} {b : List UInt8} (hb : RdB I vb b) (hbl : b.length ≤ 100000) (hh : 0 ≤ G.s.h ∧ G.s.h ≤ 1) (ha : 0 ≤ G.at_ ∧ G.at_ ≤ 1000) (hn : 0 ≤ G.nx ∧ G.nx ≤ 16777216) (hpn : S.pend.length ≤ 600000) :
    Calls Tryz.prog 52 #[.pointer (some ⟨lb, 0, none⟩), vb] w fun e w' => ∃ I' Ld' S' G' er, Imm.le I I' ∧ e = .returned (.int .i64 er) ∧ St w0 w' I' ((lb, .cells (logV d G').toArray 92) :: (Ld' ++ L)) ∧ DiskO d S' Ld' ∧ ApR S G b S' G' er := by
  have hbo : BOk [b] := ⟨(by show 1 ≤ 1000; decide), by simpa using hbl⟩; refine enter Tryz.func52 rfl (N := 48) rfl rfl ?_
  simp only [zA, zB, zC, zD, zE, Nat.reduceAdd]
  have hle := Imm.le.refl I; refine zR <| zS rfl rfl <| zN <| zm rfl rfl <| ze rfl (runs_lit1R (xs := [vb]) Tryz.underlying64 ti52 (by decide) rfl rfl rfl (by simpa using hb.one) hst) ?_; clear hst; rintro u1 w ⟨I1, hI1, hst, h1⟩; replace hb := hb.mono hI1; replace hle := hle.trans hI1; have hv : RdR _ u1 [vb] [b] := RdR.of_all h1 rfl ⟨hb, trivial⟩; refine zS rfl rfl <| zM <| zk <| zR <| zm rfl rfl <| zm rfl rfl <| zK rfl call79 rfl rfl (room_spec hst hh ha) ?_; clear hst; rintro e w ⟨rfl, hst⟩; refine ⟨_, rfl, ?_⟩; refine zm rfl rfl <| zK rfl call78 rfl rfl (may_log hst hv hbo hn (roomR G)) ?_; clear hst; rintro e w ⟨rfl, hst⟩; refine ⟨_, rfl, ?_⟩; refine zS rfl rfl <| zN <| zm rfl rfl <| z1 rfl (runs_neI rfl rfl) <| zM <| zb rfl (fun hc17 => ?_) (fun hc17 => ?_)
  · have hcb17 := hc17; (try simp only [dY, dF] at hc17); refine zR <| zm rfl rfl <| zS rfl rfl <| zM <| CW.ret <| zr <| z9 rfl rfl ?_; exact ⟨_, Ld, S, G, _, hle, rfl, hst, hd, .may (by simpa using hc17)⟩
  · have hcb17 := hc17; (try simp only [dY, dF] at hc17)
    have hm0 : mayL G (roomR G) [b] = 0 := by simpa using hc17
    refine zj <| za <| zR <| zm rfl rfl <| zm rfl rfl <| z1 rfl (runs_nilCheck rfl) <| zp rfl rfl U92 rfl ti3 rfl <| zl 0 rfl sc3 rfl hst rfl rfl <| zm rfl rfl <| zK rfl call80 rfl rfl (lwrite_spec hd hst hv hbo hn G.at_ (by omega) hpn) ?_; clear hst; rintro e w ⟨I4, Ld1, S1, wa, we, hI4, rfl, hst, hd1, hwr⟩; replace hb := hb.mono hI4; replace h1 := h1.mono hI4; replace hle := hle.trans hI4; refine ⟨_, rfl, ?_⟩; refine zm rfl rfl <| zx rfl rfl rfl <| zx rfl rfl rfl <| zS rfl rfl <| zS rfl rfl <| zM <| zk <| zR <| zm rfl rfl <| z1 rfl (runs_neI rfl rfl) ?_; refine zM ?_; refine zb rfl (fun hc30 => ?_) (fun hc30 => ?_)
    · have hcb30 := hc30; (try simp only [dY, dF] at hc30); refine zR <| zm rfl rfl <| zm rfl rfl <| z1 rfl (runs_nilCheck rfl) <| zp rfl rfl U92 rfl ti25 rfl ?_; refine zy 0 ti25 rfl rfl hst rfl rfl rfl ?_; clear hst; rintro w hst; (try simp only [sZ, sS] at hst); refine zN <| zm rfl rfl <| zS rfl rfl <| zM <| CW.ret <| zr <| z9 rfl rfl ?_; exact ⟨_, Ld1, S1, G.ill we, we, hle, rfl, hst, hd1, .bad hm0 hwr (by simpa using hc30)⟩
    · have hcb30 := hc30; (try simp only [dY, dF] at hc30)
      obtain rfl : we = 0 := by simpa using hc30
      refine zj <| za <| zR <| zm rfl rfl <| zm rfl rfl <| zm rfl rfl <| zm rfl rfl <| z1 rfl (runs_nilCheck rfl) <| zp rfl rfl U92 rfl ti3 rfl <| zl 0 rfl sc3 rfl hst rfl rfl ?_; refine z1 rfl (runs_add rfl rfl (by omega)) ?_; refine z1 rfl (runs_nilCheck rfl) <| zp rfl rfl U92 rfl ti3 rfl ?_; refine zy 0 ti3 rfl rfl hst rfl rfl rfl ?_; clear hst; rintro w hst; (try simp only [sZ, sS] at hst); refine z1 rfl (runs_nilCheck rfl) <| zp rfl rfl U92 rfl ti3 rfl ?_; refine zy 0 ti3 rfl rfl hst rfl rfl rfl ?_; clear hst; rintro w hst; (try simp only [sZ, sS] at hst); refine zN <| zS rfl rfl <| zM <| CW.ret <| z9 rfl rfl ?_; exact ⟨_, Ld1, S1, G.to wa (G.nx + 1), 0, hle, rfl, hst, hd1, .ok hm0 hwr⟩
set_option maxRecDepth 100000 in
set_option maxHeartbeats 1000000 in
theorem turn_log {w0 w : World} {I : Imm} {L Ld : Own} {d : Value} {S : DS} {lb : Nat} {G : LG} (hd : DiskO d S Ld) (hst : St w0 w I ((lb, .cells (logV d G).toArray 92) :: (Ld ++ L))) {v : Value} {vs : List Value} {bss : List (List UInt8)} (hv : RdR I v vs bss) (hbs : BOk bss) (hh : 0 ≤ G.s.h ∧ G.s.h ≤ 1) (ha : 0 ≤ G.at_ ∧ G.at_ ≤ 1000) (hn : 0 ≤ G.nx ∧ G.nx ≤ 16777216) (hs : 0 ≤ G.s.n ∧ G.s.n ≤ 16777216) (hpn : S.pend.length ≤ 300000) :
    Calls Tryz.prog 82 #[.pointer (some ⟨lb, 0, none⟩), v] w fun e w' => ∃ I' Ld' S' G' er, Imm.le I I' ∧ e = .returned (.int .i64 er) ∧ St w0 w' I' ((lb, .cells (logV d G').toArray 92) :: (Ld' ++ L)) ∧ DiskO d S' Ld' ∧ TuR S G bss S' G' er := by
  have hbl := hbs.1; have hvl := hv.2.1; refine enter Tryz.func82 rfl (N := 91) rfl rfl ?_
  simp only [zA, zB, zC, zD, zE, Nat.reduceAdd]
  have hle := Imm.le.refl I; refine zR <| zS rfl rfl <| zN <| zm rfl rfl <| zm rfl rfl <| zK rfl call78 rfl rfl (may_log hst hv hbs hn 256) ?_; clear hst; rintro e w ⟨rfl, hst⟩; refine ⟨_, rfl, ?_⟩; refine zS rfl rfl <| zM <| zk <| zR <| zm rfl rfl <| z1 rfl (runs_neI rfl rfl) <| zM <| zb rfl (fun hc12 => ?_) (fun hc12 => ?_)
  · have hcb12 := hc12; (try simp only [dY, dF] at hc12); refine zR <| zm rfl rfl <| zS rfl rfl <| zM <| CW.ret <| zr <| z9 rfl rfl ?_; exact ⟨_, Ld, S, G, _, hle, rfl, hst, hd, .may (by simpa using hc12)⟩
  · have hcb12 := hc12; (try simp only [dY, dF] at hc12)
    have hm0 : mayL G 256 bss = 0 := by simpa using hc12
    refine zj <| za <| zk ?_; refine CW.drawSt hst (.q 0 (.q 1 (.q 2 (.q 3 (.q 4 (.q 5 (.q 6 (.q 7 (.q 8 (.q 9 (.q 10 (.q 11 (.q 12 (.q 13 (.q 14 (.q 15 (.q 16 (.q 17 (.q 18 (.q 19 (.q 20 (.q 21 (.q 22 (.q 23 (.q 24 (.q 25 (.q 26 (.l 27 (.l 28 .nil))))))))))))))))))))))))))))) follows (by kernel_rfl) (fun w hst => ?_); refine ym rfl rfl rfl <| yc rfl rfl rfl <| yp rfl rfl rfl U92 rfl ti88 rfl <| yp rfl rfl rfl U88 rfl ti3 rfl <| yl 0 rfl rfl sc3 rfl rfl rfl <| DRW.q rfl rfl (fun w' hF => runs_add rfl rfl (by omega)) ?_; refine ym rfl rfl rfl <| yc rfl rfl rfl <| yp rfl rfl rfl U92 rfl ti88 rfl <| yp rfl rfl rfl U88 rfl ti3 rfl <| yl 0 rfl rfl sc3 rfl rfl rfl <| ym rfl rfl rfl <| yc rfl rfl rfl <| yp rfl rfl rfl U92 rfl ti88 rfl <| yp rfl rfl rfl U88 rfl ti3 rfl <| yl 0 rfl rfl sc3 rfl rfl rfl ?_; refine DRW.q rfl rfl (fun w' hF => runs_sub rfl rfl (by omega)) ?_; refine ym rfl rfl rfl <| yc rfl rfl rfl <| yp rfl rfl rfl U92 rfl ti3 rfl <| yl 0 rfl rfl sc3 rfl rfl rfl <| ym rfl rfl rfl <| yc rfl rfl rfl <| yp rfl rfl rfl U92 rfl ti88 rfl <| yp rfl rfl rfl U88 rfl ti3 rfl <| yl 0 rfl rfl sc3 rfl rfl rfl <| DRW.q rfl rfl (fun w' hF => runs_buildF (cells := [_, _, _, _, _]) bz88 rfl rfl rfl rfl rfl) ?_; refine DRW.opE rfl rfl (runs_alloc ti88 hst) ?_; clear hst; rintro _ w ⟨b2, rfl, hst⟩; refine ⟨FSt.ofA hst (Imm.le.refl _), ?_⟩; refine y0 rfl (runs_storeW ti88 rfl rfl hst (k := 0) rfl rfl rfl (NoFz.zero _) rfl) ?_; clear hst; rintro w hst; (try simp only [sZ, sS] at hst); refine ⟨FSt.ofA hst (Imm.le.refl _), ?_⟩; refine DRW.done <| za <| zk <| zR <| zp rfl rfl U88 rfl ti3 rfl <| zl 0 rfl sc3 rfl hst rfl rfl <| z1 rfl (runs_gtr rfl rfl) <| zm rfl rfl <| zi (t := 44) rfl (fun hb44 => ?_) (fun hb44 => ?_)
    · have hb44p := hb44; (try simp only [dY, dF] at hb44p); refine zH rfl rfl rfl rfl rfl rfl rfl rfl hb44 <| zt rfl rfl hb44 rfl <| zM <| CW.cond_true rfl ?_; refine zR <| zS rfl rfl <| zM <| CW.ret <| zr <| z9 rfl rfl ?_; exact ⟨_, Ld, S, G, 5, hle, rfl, hst.drop1, hd, .full hm0 (by omega)⟩
    · have hb44p := hb44; (try simp only [dY, dF] at hb44p); refine zo rfl rfl rfl rfl hb44 <| zp rfl rfl U88 rfl ti3 rfl <| zo rfl rfl rfl rfl hb44 <| zl 0 rfl sc3 rfl hst rfl rfl <| zo rfl rfl rfl rfl hb44 <| z1 rfl (runs_gtr rfl rfl) <| zn rfl rfl hb44 rfl <| zM <| zb rfl (fun hc48 => ?_) (fun hc48 => ?_)
      · have hcb48 := hc48; (try simp only [dY, dF] at hc48); refine zR <| zS rfl rfl <| zM <| CW.ret <| zr <| z9 rfl rfl ?_; exact ⟨_, Ld, S, G, 5, hle, rfl, hst.drop1, hd, .full hm0 (by omega)⟩
      · have hcb48 := hc48; (try simp only [dY, dF] at hc48)
        have hno : ¬ (16777215 < G.s.n + 1 ∨ 16777215 < G.nx) := by omega
        have hbe : beginR (1 - G.s.h) = 2 + (1 - G.s.h) * 256 := rfl; refine zj <| za <| zR <| zm rfl rfl <| zp rfl rfl U88 rfl ti3 rfl <| zl 0 rfl sc3 rfl hst rfl rfl <| zK rfl call45 rfl rfl (begin_spec hst (1 - G.s.h) (by omega)) ?_; clear hst; rintro e w ⟨rfl, hst⟩; refine ⟨_, rfl, ?_⟩; refine zm rfl rfl <| zK rfl call80 rfl rfl (lwrite_spec hd (hst.perm (perm_in3 _ _ Ld L)) hv hbs hn (beginR (1 - G.s.h)) (by omega) (by omega)) ?_; clear hst; rintro e w ⟨I5, Ld1, S1, wa, we, hI5, rfl, hst, hd1, hwr⟩; replace hst := hst.perm (perm_in3 _ _ Ld1 L).symm; have hwp := wr_pend hwr; replace hv := hv.mono hI5; replace hle := hle.trans hI5; refine ⟨_, rfl, ?_⟩; refine zm rfl rfl <| zx rfl rfl rfl <| zx rfl rfl rfl <| zS rfl rfl <| zS rfl rfl <| zM <| zk <| zR <| zm rfl rfl <| z1 rfl (runs_eqI rfl rfl) ?_; refine zM ?_; refine zb rfl (fun hc59 => ?_) (fun hc59 => ?_)
        · have hcb59 := hc59; (try simp only [dY, dF] at hc59); obtain rfl : we = 0 := hc59; refine CW.draw (FSt w0 I5 ((b2, .cells (slotV (turnS G)).toArray 88) :: (lb, .cells (logV d G).toArray 92) :: L)) (.q 0 (.q 1 (.q 2 (.q 3 (.q 4 (.l 5 (.q 6 .nil))))))) follows (by kernel_rfl) ⟨_, Imm.le.refl _, hst.draw.sub (((List.sublist_append_right _ _).cons_cons _).cons_cons _)⟩ ?_; replace hst := hst.draw; refine ym rfl rfl rfl <| yc rfl rfl rfl <| yp rfl rfl rfl U92 rfl ti23 rfl <| yl 1 rfl rfl sc23 rfl rfl rfl <| DRW.q rfl rfl (FSt.loadN (vs := [_, _, _, _, _]) ag88 ti88 rfl (k := 0) rfl rfl rfl) ?_; refine yC rfl rfl call43 rfl rfl (store_spec hd1 (hst.perm (perm_two2 _ _ Ld1 L)) (turnS G) (by unfold i64ok turnS; dsimp only; omega) (by omega)) ?_; clear hst; rintro e w ⟨I6, Ld2, hI6, rfl, hst, hd2⟩; replace hst := hst.perm (perm_two2 _ _ Ld2 L).symm; replace hv := hv.mono hI6; replace hle := hle.trans hI6; refine ⟨_, rfl, FSt.of hst hI6 (((List.sublist_append_right _ _).cons_cons _).cons_cons _), ?_⟩; refine yS rfl rfl rfl <| DRW.done <| za <| zk <| zR <| zm rfl rfl <| z1 rfl (runs_neI rfl rfl) <| zM <| zb rfl (fun hc67 => ?_) (fun hc67 => ?_)
          · have hcb67 := hc67; (try simp only [dY, dF] at hc67); refine zR <| zm rfl rfl <| zm rfl rfl <| z1 rfl (runs_nilCheck rfl) <| zp rfl rfl U92 rfl ti25 rfl ?_; refine zy 1 ti25 rfl rfl hst rfl rfl rfl ?_; clear hst; rintro w hst; (try simp only [sZ, sS] at hst); refine zN <| zm rfl rfl <| zS rfl rfl <| zM <| CW.ret <| zr <| z9 rfl rfl ?_; exact ⟨_, Ld2, _, G.ill (storeR S1 (turnS G)).2, _, hle, rfl, hst.drop1, hd2, .st hm0 hno hwr (by simpa using hc67)⟩
          · have hcb67 := hc67; (try simp only [dY, dF] at hc67)
            have hz2 : (storeR S1 (turnS G)).2 = 0 := by simpa using hc67
            refine zj <| za <| zk ?_; refine CW.draw (FSt w0 I6 ((b2, .cells (slotV (turnS G)).toArray 88) :: (Ld2 ++ L))) (.q 0 (.q 1 (.q 2 (.q 3 (.q 4 (.q 5 (.q 6 (.q 7 (.q 9 (.q 10 (.l 8 (.q 11 (.q 12 (.q 13 (.l 14 (.q 15 (.q 16 (.l 17 (.q 18 (.q 19 (.l 20 .nil))))))))))))))))))))) follows (by kernel_rfl) ⟨_, Imm.le.refl _, hst.draw.sub ((List.sublist_cons_self _ _).cons_cons _)⟩ ?_; replace hst := hst.draw; refine ym rfl rfl rfl <| ym rfl rfl rfl <| ym rfl rfl rfl <| DRW.q rfl rfl (FSt.loadN (vs := [_, _, _, _, _]) ag88 ti88 rfl (k := 0) rfl rfl rfl) ?_; refine ym rfl rfl rfl <| ym rfl rfl rfl <| yc rfl rfl rfl <| yp rfl rfl rfl U92 rfl ti3 rfl <| ym rfl rfl rfl <| DRW.q rfl rfl (fun w' hF => RdL.len Tryz.underlying64 rfl hv.1) ?_; refine DRW.op1 rfl rfl (runs_load1 sc3 rfl (hst.cell_own (k := 1) rfl rfl)) (FSt.of hst (Imm.le.refl _) ((List.sublist_cons_self _ _).cons_cons _)) ?_; refine DRW.q rfl rfl (fun w' hF => runs_add rfl rfl (by omega)) ?_; refine yc rfl rfl rfl <| yp rfl rfl rfl U92 rfl ti88 rfl <| y0 rfl (runs_storeP ti88 rfl rfl hst (k := 1) rfl rfl rfl (NoFz.zero _) rfl) ?_; clear hst; rintro w hst; (try simp only [sZ, sS] at hst); refine ⟨FSt.of hst (Imm.le.refl _) ((List.sublist_cons_self _ _).cons_cons _), ?_⟩; refine yc rfl rfl rfl <| yp rfl rfl rfl U92 rfl ti3 rfl <| y0 rfl (runs_store1P ti3 rfl rfl hst (k := 1) rfl rfl (NoFz.zero _) rfl) ?_; clear hst; rintro w hst; (try simp only [sZ, sS] at hst); refine ⟨FSt.of hst (Imm.le.refl _) ((List.sublist_cons_self _ _).cons_cons _), ?_⟩; refine yc rfl rfl rfl <| yp rfl rfl rfl U92 rfl ti3 rfl <| y0 rfl (runs_store1P ti3 rfl rfl hst (k := 1) rfl rfl (NoFz.zero _) rfl) ?_; clear hst; rintro w hst; (try simp only [sZ, sS] at hst); refine ⟨FSt.of hst (Imm.le.refl _) ((List.sublist_cons_self _ _).cons_cons _), ?_⟩; refine DRW.done <| za <| zR <| zS rfl rfl <| zM <| CW.ret <| z9 rfl rfl ?_; exact ⟨_, Ld2, _, ⟨turnS G, wa, G.nx + (vs.length : Nat), G.bad⟩, 0, hle, rfl, hst.drop1, hd2, by rw [hvl]; exact .ok hm0 hno hwr hz2⟩
        · have hcb59 := hc59; (try simp only [dY, dF] at hc59); refine zj <| za <| zk <| zR <| zm rfl rfl <| z1 rfl (runs_neI rfl rfl) <| zM <| zb rfl (fun hc => ?_) (fun hc => absurd hc (by simpa using hc59)); refine zR <| zm rfl rfl <| zm rfl rfl <| z1 rfl (runs_nilCheck rfl) <| zp rfl rfl U92 rfl ti25 rfl ?_; refine zy 1 ti25 rfl rfl hst rfl rfl rfl ?_; clear hst; rintro w hst; (try simp only [sZ, sS] at hst); refine zN <| zm rfl rfl <| zS rfl rfl <| zM <| CW.ret <| zr <| z9 rfl rfl ?_; exact ⟨_, Ld1, _, G.ill we, _, hle, rfl, hst.drop1, hd1, .wr hm0 hno hwr (by simpa using hc59)⟩
def zeroB : List UInt8 := List.replicate 32 0
def zput (S : DS) (k : Nat) : DS := putTo S 0 (fun _ => zeroB) k
def zputE (S : DS) (k : Nat) : Int := putE S 0 (fun _ => zeroB) k
def slot1 : Slot := ⟨1, 1, 0, 1, 1⟩
inductive FmR (S : DS) : DS → Int → Prop
  | len : (S.secs.length : Int) ≠ 514 → FmR S S 1
  | wr {k : Nat} : (S.secs.length : Int) = 514 → k < 514 → (∀ j, j < k → zputE S j = 0) → zputE S k ≠ 0 → FmR S (zput S (k + 1)) (zputE S k)
  | fl : (S.secs.length : Int) = 514 → (∀ j, j < 514 → zputE S j = 0) → (flushR (zput S 514)).2 ≠ 0 → FmR S (flushR (zput S 514)).1 (flushR (zput S 514)).2
  | st : (S.secs.length : Int) = 514 → (∀ j, j < 514 → zputE S j = 0) → (flushR (zput S 514)).2 = 0 → FmR S (storeR (flushR (zput S 514)).1 slot1).1 (storeR (flushR (zput S 514)).1 slot1).2
set_option maxRecDepth 100000 in
set_option maxHeartbeats 1000000 in
theorem format_log {w0 w : World} {I : Imm} {L Ld : Own} {d : Value} {S : DS} (hd : DiskO d S Ld) (hst : St w0 w I (Ld ++ L)) (hpn : S.pend.length ≤ 600000) :
    Calls Tryz.prog 26 #[d] w fun e w' => ∃ I' Ld' S' er, Imm.le I I' ∧ e = .returned (.int .i64 er) ∧ St w0 w' I' (Ld' ++ L) ∧ DiskO d S' Ld' ∧ FmR S S' er := by
  refine enter Tryz.func26 rfl (N := 30) rfl rfl ?_
  simp only [zA, zB, zC, zD, zE, Nat.reduceAdd]
  have hle := Imm.le.refl I; refine zR <| zS rfl rfl <| zM <| zk <| zR <| zm rfl rfl <| zK rfl call39 rfl rfl (fits_spec hd hst) ?_; clear hst; rintro e w ⟨rfl, hst⟩; refine ⟨_, rfl, ?_⟩; refine z1 rfl (runs_not rfl) <| zM <| zb rfl (fun hc8 => ?_) (fun hc8 => ?_)
  · have hcb8 := hc8; (try simp only [dY, dF] at hc8); refine zR <| zS rfl rfl <| zM <| CW.ret <| zr <| z9 rfl rfl ?_; exact ⟨_, Ld, S, 1, hle, rfl, hst, hd, .len (by simpa using hc8)⟩
  · have hcb8 := hc8; (try simp only [dY, dF] at hc8)
    have hlen : (S.secs.length : Int) = 514 := by simpa using hc8
    refine zj <| za <| zk <| zR <| zm rfl rfl <| zK rfl call40 rfl rfl (len_spec hd hst) ?_; clear hst; rintro e w ⟨rfl, hst⟩; rw [hlen]; refine ⟨_, rfl, ?_⟩; refine zm rfl rfl <| zM <| CW.block <| CW.loop (Nat × Imm × Own) (fun x w => I.le x.2.1 ∧ St w0 w x.2.1 (x.2.2 ++ L) ∧ DiskO d (zput S x.1) x.2.2 ∧ x.1 ≤ 514 ∧ ∀ j, j < x.1 → zputE S j = 0) (fun x => [(0, d), (10, .int .i64 514), (11, .int .i64 (x.1 : Int))]) (fun x => 514 - x.1) ⟨(0, _, _), ⟨hle, hst, hd, Nat.zero_le _, fun j h => absurd h (Nat.not_lt_zero _)⟩, ⟨rfl, rfl, rfl, trivial⟩⟩ ?_; clear hle hst hd; rintro ⟨k, I1, Ld1⟩ w ⟨hle, hst, hd, hk, hz⟩; dsimp only at hle hst hd hk hz ⊢; refine zR <| z1 rfl (runs_lss rfl rfl) <| zM <| zk <| zb rfl (fun hc12 => ?_) (fun hc12 => ?_)
    · have hcb12 := hc12; (try simp only [dY, dF] at hc12)
      have hk1 : k < 514 := by omega
      have hpz := putTo_pend S 0 (fun _ => zeroB) k; refine zj <| za <| zk <| CW.block <| zR <| zm rfl rfl <| zS rfl rfl <| zN <| zm rfl rfl <| zm rfl rfl ?_; refine ze rfl (runs_makeSlice (n := 32) Tryz.underlying52 ti5 rfl hst (by omega) (by unfold maxLen; omega)) ?_; clear hst; rintro _ w ⟨b3, rfl, hst⟩; obtain ⟨IZ, hIZ, hstn, hZ⟩ := RdB.of_block (e := 5) (b := b3) (n := 32) (bs := zeroB) rfl (by rw [made_b8] at hst; exact hst) (by unfold maxLen; omega); clear hst; have hst := hstn; clear hstn; replace hle := hle.trans hIZ; refine zK rfl call41 rfl rfl (write_spec hd hst (k : Int) hZ (by show (putTo S 0 (fun _ => zeroB) k).pend.length ≤ _; omega)) ?_; clear hst; rintro e w ⟨I4, Ld2, hI4, rfl, hst, hd2⟩
      have hze : zputE S k = (writeR (zput S k) (k : Int) zeroB).2 := by unfold zputE putE zput; rw [Int.zero_add]
      have hzs : zput S (k + 1) = (writeR (zput S k) (k : Int) zeroB).1 := by show (writeR _ (0 + (k : Int)) _).1 = _; rw [Int.zero_add]; rfl
      rw [← hzs] at hd2; rw [← hze]; replace hle := hle.trans hI4; refine ⟨_, rfl, ?_⟩; refine zS rfl rfl <| zN <| zm rfl rfl <| z1 rfl (runs_neI rfl rfl) <| zM <| zb rfl (fun hc19 => ?_) (fun hc19 => ?_)
      · have hcb19 := hc19; (try simp only [dY, dF] at hc19); refine zR <| zm rfl rfl <| zS rfl rfl <| zM <| CW.ret <| AQ.block_ret <| zr <| zr <| AQ.block_ret <| zr ?_; refine z9 rfl rfl ?_; exact ⟨_, Ld2, _, _, hle, rfl, hst, hd2, .wr hlen hk1 hz (by simpa using hc19)⟩
      · have hcb19 := hc19; (try simp only [dY, dF] at hc19); refine zj <| zh <| za <| zg <| z1 rfl (runs_add rfl rfl (by omega)) ?_; refine zm rfl rfl <| zd ?_
        exact AQ.again (x := (k, I1, Ld1)) (k + 1, _, Ld2) ⟨hle, hst, hd2, by dsimp only; omega, fun j hj => by
          by_cases h : j < k
          · exact hz j h
          · obtain rfl : j = k := by dsimp only at hj; omega
            simpa using hc19⟩ ⟨rfl, rfl, rfl, trivial⟩ (by dsimp only; omega)
    · have hcb12 := hc12; (try simp only [dY, dF] at hc12)
      obtain rfl : k = 514 := by omega
      refine CW.exit ?_; refine AQ.past_exit <| AQ.past_exit <| AQ.block_hit <| za <| zk <| zR <| zm rfl rfl <| zK rfl call42 rfl rfl (flush_spec hd hst) ?_; clear hst; rintro e w ⟨Ld3, rfl, hst, hd3⟩; refine ⟨_, rfl, ?_⟩; refine zS rfl rfl <| zN <| zm rfl rfl <| z1 rfl (runs_neI rfl rfl) <| zM <| zb rfl (fun hc25 => ?_) (fun hc25 => ?_)
      · have hcb25 := hc25; (try simp only [dY, dF] at hc25); refine zR <| zm rfl rfl <| zS rfl rfl <| zM <| CW.ret <| zr <| z9 rfl rfl ?_; exact ⟨_, Ld3, _, _, hle, rfl, hst, hd3, .fl hlen hz (by simpa using hc25)⟩
      · have hcb25 := hc25; (try simp only [dY, dF] at hc25); refine zj <| za <| zR <| zm rfl rfl <| z1 rfl (runs_buildF (cells := [_, _, _, _, _]) bz88 rfl rfl rfl rfl rfl) <| zK rfl call43 rfl rfl (store_spec hd3 hst slot1 (by unfold i64ok slot1; dsimp only; omega) (by have := flushR_pend (zput S 514); have h2 := putTo_pend S 0 (fun _ => zeroB) 514; have h3 : (zput S 514).pend.length ≤ S.pend.length + 514 := h2; omega)) ?_; clear hst; rintro e w ⟨I6, Ld4, hI6, rfl, hst, hd4⟩; replace hle := hle.trans hI6; refine ⟨_, rfl, ?_⟩; refine zS rfl rfl <| zM <| CW.ret <| z9 rfl rfl ?_; exact ⟨_, Ld4, _, _, hle, rfl, hst, hd4, .st hlen hz (by simpa using hc25)⟩
end Go.Proofs.YtadgbifmiooikaaGreatX
