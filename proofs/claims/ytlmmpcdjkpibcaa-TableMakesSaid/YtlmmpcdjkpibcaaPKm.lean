/- Parts of a proof, joined: walks through the program's functions and their laws, in the order in which they need each other. -/
import Derived.Test.YtlmmpcdjkpibcaaPKb
import Derived.Test.YtlmmpcdjkpibcaaPKg
import Derived.Test.YtlmmpcdjkpibcaaPKl
namespace Go.Proofs.YtlmmpcdjkpibcaaX
set_option linter.unusedVariables false
set_option linter.unusedSimpArgs false
open Go Go.RowKit Go.Proofs
set_option maxRecDepth 100000 in
set_option maxHeartbeats 4000000 in
theorem makes_spec {w0 w : World} {I : Imm} {L : Own} (hst : St w0 w I L) {vi : Value} {ls : List Int} (hl : RdI I vi ls) (hls : ∀ x ∈ ls, i64ok x) (m : Int) (hm : i64ok m) :
    Calls Try.prog 6 #[vi, .int .i64 m] w fun e w' => e = .returned (.bool true) ∧ ∃ I', I.le I' ∧ St w0 w' I' L := by
  refine enter Try.func6 rfl (N := 132) rfl rfl ?_
  simp only [List.zipIdx_cons, List.zipIdx_nil, List.map_cons, List.map_nil, Nat.zero_add, Nat.reduceAdd]
  have hle := Imm.le.refl I
  refine CW.seq ?_
  refine CW.region ?_
  refine RW.op1 rfl (runs_assign rfl) ?_
  refine RW.done ?_
  refine AQ.next ?_
  refine CW.seq ?_
  refine CW.region ?_
  refine RW.call rfl call7 rfl rfl (new_spec hst) ?_
  rintro e w ⟨bT, Lt, rfl, hstn, hd⟩
  clear hst
  have hst := hstn
  clear hstn
  refine ⟨_, rfl, ?_⟩
  refine RW.call rfl call7 rfl rfl (new_spec hst) ?_
  rintro e w ⟨bU, Lu, rfl, hstn, hdu⟩
  clear hst
  have hst := hstn
  clear hstn
  replace hst := hst.perm (permAB (X := Lu) (Y := Lt))
  refine ⟨_, rfl, ?_⟩
  refine RW.op1 rfl (runs_assign rfl) ?_
  refine RW.op1 rfl (runs_assign rfl) ?_
  refine RW.done ?_
  refine AQ.next ?_
  refine CW.seq ?_
  refine CW.seq ?_
  refine CW.region ?_
  refine RW.op1 rfl (runs_move rfl) ?_
  refine RW.op1 rfl (runs_eq_nilptr Try.underlying23 rfl) ?_
  refine RW.op1 rfl (runs_move rfl) ?_
  have hk20 := (show (some (⟨bT, 0, none⟩ : Addr)).isNone = false from rfl)
  refine RW.on_guard rfl rfl rfl rfl hk20 ?_
  refine RW.op1 rfl (runs_move rfl) ?_
  refine RW.on_guard rfl rfl rfl rfl hk20 ?_
  refine RW.op1 rfl (runs_eq_nilptr Try.underlying23 rfl) ?_
  refine RW.op1 rfl (runs_pick_false rfl hk20 rfl) ?_
  refine RW.done ?_
  refine AQ.next ?_
  refine CW.cond rfl (fun hc => absurd hc (by simp)) (fun hc => ?_)
  refine CW.skip ?_
  refine AQ.next ?_
  refine CW.seq ?_
  refine CW.seq ?_
  refine CW.region ?_
  refine RW.op1 rfl (runs_assign rfl) ?_
  refine RW.done ?_
  refine AQ.next ?_
  refine CW.block ?_
  refine CW.loop (Nat × Imm × List TRow × Int × Own) (fun x w => x.1 ≤ ls.length ∧ x.1 ≤ 20 ∧ I.le x.2.1 ∧ RdI x.2.1 vi ls ∧ TbO x.2.1 x.2.2.1 x.2.2.2.1 bT x.2.2.2.2 ∧ TbO x.2.1 [] 1 bU Lu ∧ TbI (absT x.2.2.1) x.2.2.2.1 ∧ x.2.2.1.length ≤ x.1 ∧ St w0 w x.2.1 (x.2.2.2.2 ++ (Lu ++ L))) (fun x => [(0, vi), (1, .int .i64 m), (5, .pointer (some ⟨bT, 0, none⟩)), (6, .pointer (some ⟨bU, 0, none⟩)), (7, .int .i64 (x.1 : Int))]) (fun x => 20 - x.1) ⟨(0, _, [], 1, Lt), ⟨Nat.zero_le _, Nat.zero_le _, hle, hl, hd, hdu, TbI.nil, Nat.zero_le _, hst⟩, ⟨rfl, rfl, rfl, rfl, rfl, trivial⟩⟩ ?_
  clear hle hl hd hdu hst
  rintro ⟨k, J, rows, next, Lt⟩ w ⟨hk1, hk2, hle, hl, hd, hdu, hti, hrl, hstn⟩
  dsimp only at hk1 hk2 hle hl hd hdu hti hrl hstn ⊢
  have hst := hstn
  clear hstn
  refine CW.seq ?_
  refine CW.seq ?_
  refine CW.cut Unit (fun _ w => St w0 w J (Lt ++ (Lu ++ L))) (fun _ => [(0, vi), (1, .int .i64 m), (5, .pointer (some ⟨bT, 0, none⟩)), (6, .pointer (some ⟨bU, 0, none⟩)), (7, .int .i64 (k : Int)), (31, .bool (decide (k < ls.length ∧ k < 20)))]) ?_ ?_
  ·
    refine CW.region ?_
    refine RW.op1 rfl (runs_move rfl) ?_
    refine RW.op1 rfl (runs_move rfl) ?_
    refine RW.op1 rfl (RdL.len Try.underlying22 rfl hl) ?_
    refine RW.op1 rfl (runs_lss rfl rfl) ?_
    refine RW.op1 rfl (runs_move rfl) ?_
    refine RW.split (t := 28) rfl (fun hb28 => ?_) (fun hb28 => ?_)
    · have hb28p := hb28
      try simp only [decide_eq_true_eq, decide_eq_false_iff_not] at hb28p
      refine RW.on_guard rfl rfl rfl rfl hb28 ?_
      refine RW.op1 rfl (runs_move rfl) ?_
      refine RW.on_guard rfl rfl rfl rfl hb28 ?_
      refine RW.op1 rfl (runs_lss rfl rfl) ?_
      refine RW.op1 rfl (runs_pick_true rfl hb28 rfl) ?_
      refine RW.done ?_
      exact AQ.meet () hst ⟨rfl, rfl, rfl, rfl, rfl, boolN (by simp only [decide_eq_true_eq, Bool.false_eq_true, false_iff]; omega), trivial⟩
    · have hb28p := hb28
      try simp only [decide_eq_true_eq, decide_eq_false_iff_not] at hb28p
      refine RW.off_guard rfl rfl rfl rfl hb28 ?_
      refine RW.off_guard rfl rfl rfl rfl hb28 ?_
      refine RW.op1 rfl (runs_pick_false rfl hb28 rfl) ?_
      refine RW.done ?_
      exact AQ.meet () hst ⟨rfl, rfl, rfl, rfl, rfl, boolN (by simp only [decide_eq_true_eq, Bool.false_eq_true, false_iff]; omega), trivial⟩
  · rintro _ w hstn
    clear hst
    have hst := hstn
    clear hstn
    refine AQ.next ?_
    refine CW.cond rfl (fun hc31 => ?_) (fun hc31 => ?_)
    · have hcb31 := hc31
      try simp only [decide_eq_true_eq, decide_eq_false_iff_not] at hc31
      have h31 : k < ls.length ∧ k < 20 := of_decide_eq_true hcb31
      obtain ⟨x, hx⟩ : ∃ x, iat ls (k : Int) = x := ⟨_, rfl⟩
      have hxo : i64ok x := hls x (by rw [← hx]; exact iat_mem (by omega))
      refine CW.skip ?_
      refine AQ.next ?_
      refine CW.seq ?_
      refine CW.block ?_
      refine CW.seq ?_
      refine CW.cut (Nat × Imm × It × Value) (fun y w => I.le y.2.1 ∧ RdI y.2.1 vi ls ∧ TbO y.2.1 rows next bT Lt ∧ TbO y.2.1 [] 1 bU Lu ∧ RdH y.2.1 y.2.2.2 y.2.2.1.heads ∧ ItSm y.2.2.1 ∧ (1 ≤ y.2.2.1.id ∧ y.2.2.1.id ≤ 9) ∧ St w0 w y.2.1 ((y.1, Obj.cells #[.int .i64 y.2.2.1.id, .int .i64 y.2.2.1.kind, .int .i64 y.2.2.1.group, .string y.2.2.1.name, .string y.2.2.1.method, .string y.2.2.1.url, y.2.2.2, .string y.2.2.1.body, .int .i64 y.2.2.1.mode, .int .i64 y.2.2.1.creds, .string y.2.2.1.page, .string y.2.2.1.csp, .int .i64 y.2.2.1.refer, .string y.2.2.1.nurl, .string y.2.2.1.nmethod, .string y.2.2.1.nbody, .int .i64 y.2.2.1.hops, .int .i64 y.2.2.1.tries, .int .i64 y.2.2.1.til, .bool y.2.2.1.tainted, .string y.2.2.1.got, .string y.2.2.1.tag, .int .i64 y.2.2.1.state, .int .i64 y.2.2.1.code, .bool y.2.2.1.acked] 36) :: (Lt ++ (Lu ++ L)))) (fun y => [(0, vi), (1, .int .i64 m), (5, .pointer (some ⟨bT, 0, none⟩)), (6, .pointer (some ⟨bU, 0, none⟩)), (7, .int .i64 (k : Int)), (8, .pointer (some ⟨y.1, 0, none⟩))]) ?_ ?_
      ·
        refine CW.drawSt hst (.q 0 (.q 1 (.q 2 (.q 3 (.q 4 (.q 5 (.q 6 (.q 7 (.q 8 (.q 9 (.q 10 (.fork (.l 11 (.l 12 (.l 13 .nil))) (.l 12 (.l 11 (.l 13 .nil))))))))))))))) follows (by kernel_rfl) (fun w hst => ?_)
        refine DRW.q rfl rfl (fun w' hF => runs_move rfl) ?_
        refine DRW.q rfl rfl (fun w' hF => runs_move rfl) ?_
        first
          | refine DRW.q rfl rfl (fun w' hF => RdL.indexAddr Try.underlying22 ti3 (by decide) rfl rfl (by assumption) (by omega)) ?_
          | refine DRW.q rfl rfl (fun w' hF => runs_indexAddr0 Try.underlying22 ti3 rfl rfl (by omega)) ?_
        first
          | refine DRW.q rfl rfl (FSt.load1 sc3 rfl (RdI.at (by assumption) (by omega) (by omega))) ?_
          | refine DRW.q rfl rfl (FSt.load1_own sc3 rfl (k := 0) rfl rfl) ?_
          | refine DRW.q rfl rfl (FSt.load1_own sc3 rfl (k := 1) rfl rfl) ?_
          | refine DRW.q rfl rfl (FSt.load1_own sc3 rfl (k := 2) rfl rfl) ?_
        refine DRW.q rfl rfl (fun w' hF => runs_move rfl) ?_
        refine DRW.q rfl rfl (fun w' hF => runs_move rfl) ?_
        refine DRW.q rfl rfl (fun w' hF => runs_move rfl) ?_
        first
          | refine DRW.q rfl rfl (fun w' hF => RdL.indexAddr Try.underlying22 ti3 (by decide) rfl rfl (by assumption) (by omega)) ?_
          | refine DRW.q rfl rfl (fun w' hF => runs_indexAddr0 Try.underlying22 ti3 rfl rfl (by omega)) ?_
        first
          | refine DRW.q rfl rfl (FSt.load1 sc3 rfl (RdI.at (by assumption) (by omega) (by omega))) ?_
          | refine DRW.q rfl rfl (FSt.load1_own sc3 rfl (k := 0) rfl rfl) ?_
          | refine DRW.q rfl rfl (FSt.load1_own sc3 rfl (k := 1) rfl rfl) ?_
          | refine DRW.q rfl rfl (FSt.load1_own sc3 rfl (k := 2) rfl rfl) ?_
        refine DRW.q rfl rfl (fun w' hF => runs_quo rfl rfl (by decide)) ?_
        obtain ⟨q, hq⟩ : ∃ q, IntKind.i64.wrap ((iat ls (k : Int)).tdiv 3) = q := ⟨_, rfl⟩
        have hqo : i64ok q := by rw [← hq]; exact wrap_ok _
        rw [hq]
        refine DRW.q rfl rfl (fun w' hF => runs_move rfl) ?_
        refine DRW.fork ?_ ?_
        · refine DRW.call rfl rfl call19 rfl rfl (item_spec hst (iat ls (k : Int)) m q (k : Int) (by rw [hx]; exact hxo) hm hqo (by unfold i64ok; omega)) ?_
          rintro e w ⟨J45, it, vh, hJ45, rfl, hstn, hvh, hsm, hid⟩
          clear hst
          have hst := hstn
          clear hstn
          have hidr : 1 ≤ it.id ∧ it.id ≤ 9 := by have r0 := within_range q 9; have r1 := r0.2 (by decide); omega
          replace hl := hl.mono hJ45
          replace hd := hd.mono hJ45
          replace hdu := hdu.mono hJ45
          replace hle := hle.trans hJ45
          refine ⟨_, rfl, FSt.of hst hJ45 (by first | exact (List.sublist_cons_self _ _).trans (List.sublist_append_right _ _) | exact List.Sublist.refl _ | exact List.sublist_cons_self _ _ | exact List.sublist_append_right _ _ | exact (List.sublist_cons_self _ _).trans (List.sublist_cons_self _ _) | exact (List.sublist_append_right _ _).trans (List.sublist_cons_self _ _) | simp), ?_⟩
          refine DRW.opE rfl rfl (runs_alloc ti36 hst) ?_
          rintro _ w ⟨b4, rfl, hstn⟩
          clear hst
          have hst := hstn
          clear hstn
          refine ⟨FSt.of hst hJ45 (by first | exact (List.sublist_cons_self _ _).trans (List.sublist_append_right _ _) | exact List.Sublist.refl _ | exact List.sublist_cons_self _ _ | exact List.sublist_append_right _ _ | exact (List.sublist_cons_self _ _).trans (List.sublist_cons_self _ _) | exact (List.sublist_append_right _ _).trans (List.sublist_cons_self _ _) | simp), ?_⟩
          refine DRW.opE0 rfl (runs_storeW ti36 rfl rfl hst (k := 0) rfl rfl rfl (NoFz.zero _) (it_one it hvh.one)) ?_
          rintro w hstn
          clear hst
          have hst := hstn
          clear hstn
          try simp only [List.set_cons_zero, List.set_cons_succ] at hst
          refine ⟨FSt.of hst hJ45 (by first | exact (List.sublist_cons_self _ _).trans (List.sublist_append_right _ _) | exact List.Sublist.refl _ | exact List.sublist_cons_self _ _ | exact List.sublist_append_right _ _ | exact (List.sublist_cons_self _ _).trans (List.sublist_cons_self _ _) | exact (List.sublist_append_right _ _).trans (List.sublist_cons_self _ _) | simp), ?_⟩
          refine DRW.done ?_
          exact AQ.meet (_, _, it, vh) ⟨hle, hl, hd, hdu, hvh, hsm, hidr, hst⟩ ⟨rfl, rfl, rfl, rfl, rfl, rfl, trivial⟩
        refine DRW.opE rfl rfl (runs_alloc ti36 hst) ?_
        rintro _ w ⟨b6, rfl, hstn⟩
        clear hst
        have hst := hstn
        clear hstn
        refine ⟨FSt.of hst (Imm.le.refl _) (by first | exact (List.sublist_cons_self _ _).trans (List.sublist_append_right _ _) | exact List.Sublist.refl _ | exact List.sublist_cons_self _ _ | exact List.sublist_append_right _ _ | exact (List.sublist_cons_self _ _).trans (List.sublist_cons_self _ _) | exact (List.sublist_append_right _ _).trans (List.sublist_cons_self _ _) | simp), ?_⟩
        refine DRW.call rfl rfl call19 rfl rfl (item_spec hst (iat ls (k : Int)) m q (k : Int) (by rw [hx]; exact hxo) hm hqo (by unfold i64ok; omega)) ?_
        rintro e w ⟨J45, it, vh, hJ45, rfl, hstn, hvh, hsm, hid⟩
        clear hst
        have hst := hstn
        clear hstn
        have hidr : 1 ≤ it.id ∧ it.id ≤ 9 := by have r0 := within_range q 9; have r1 := r0.2 (by decide); omega
        replace hl := hl.mono hJ45
        replace hd := hd.mono hJ45
        replace hdu := hdu.mono hJ45
        replace hle := hle.trans hJ45
        refine ⟨_, rfl, FSt.of hst hJ45 (by first | exact (List.sublist_cons_self _ _).trans (List.sublist_append_right _ _) | exact List.Sublist.refl _ | exact List.sublist_cons_self _ _ | exact List.sublist_append_right _ _ | exact (List.sublist_cons_self _ _).trans (List.sublist_cons_self _ _) | exact (List.sublist_append_right _ _).trans (List.sublist_cons_self _ _) | simp), ?_⟩
        refine DRW.opE0 rfl (runs_storeW ti36 rfl rfl hst (k := 0) rfl rfl rfl (NoFz.zero _) (it_one it hvh.one)) ?_
        rintro w hstn
        clear hst
        have hst := hstn
        clear hstn
        try simp only [List.set_cons_zero, List.set_cons_succ] at hst
        refine ⟨FSt.of hst hJ45 (by first | exact (List.sublist_cons_self _ _).trans (List.sublist_append_right _ _) | exact List.Sublist.refl _ | exact List.sublist_cons_self _ _ | exact List.sublist_append_right _ _ | exact (List.sublist_cons_self _ _).trans (List.sublist_cons_self _ _) | exact (List.sublist_append_right _ _).trans (List.sublist_cons_self _ _) | simp), ?_⟩
        refine DRW.done ?_
        exact AQ.meet (_, _, it, vh) ⟨hle, hl, hd, hdu, hvh, hsm, hidr, hst⟩ ⟨rfl, rfl, rfl, rfl, rfl, rfl, trivial⟩
      · clear hle hl hd hdu hst
        rintro ⟨b8, J1, it, vh⟩ w ⟨hle, hl, hd, hdu, hvh, hsm, hidr, hstn⟩
        dsimp only at hle hl hd hdu hvh hsm hidr hstn ⊢
        have hst := hstn
        clear hstn
        refine AQ.next ?_
        refine CW.seq ?_
        refine CW.region ?_
        refine RW.op1 rfl (runs_move rfl) ?_
        refine RW.op1 rfl (runs_move rfl) ?_
        first
          | refine RW.op1 rfl (RdL.indexAddr Try.underlying22 ti3 (by decide) rfl rfl (by assumption) (by omega)) ?_
          | refine RW.op1 rfl (runs_indexAddr0 Try.underlying22 ti3 rfl rfl (by omega)) ?_
        refine RW.op1 rfl (runs_load1 sc3 rfl (hst.cell_imm (RdI.at hl (by omega) (by omega)))) ?_
        rw [hx]
        refine RW.op1 rfl (runs_rem rfl rfl (by decide)) ?_
        refine RW.op1 rfl (runs_eqI rfl rfl) ?_
        refine RW.done ?_
        refine AQ.next ?_
        refine CW.cond rfl (fun hc51 => ?_) (fun hc51 => ?_)
        · have hcb51 := hc51
          try simp only [decide_eq_true_eq, decide_eq_false_iff_not] at hc51
          refine CW.region ?_
          refine RW.op1 rfl (runs_move rfl) ?_
          first
            | refine RW.op1 rfl (runs_fieldAddr0 rfl Try.underlying36 rfl ti3 (by decide)) ?_
            | refine RW.op1 rfl (runs_fieldAddr rfl Try.underlying36 rfl ti3 (by decide)) ?_
          first
            | refine RW.op1 rfl (runs_load1 sc3 rfl (hst.cell_own (k := 0) rfl rfl)) ?_
            | refine RW.op1 rfl (runs_load1 sc3 rfl (hst.cell_own (k := 1) rfl rfl)) ?_
            | refine RW.op1 rfl (runs_load1 sc3 rfl (hst.cell_own (k := 2) rfl rfl)) ?_
          refine RW.call rfl call9 rfl rfl (drop_spec hd (hst.perm (List.perm_middle (l₁ := Lt)).symm) it.id) ?_
          rintro e w ⟨Lt2, rfl, hstn, hd2⟩
          clear hst
          have hst := hstn
          clear hstn
          refine ⟨_, rfl, ?_⟩
          refine RW.done ?_
          refine AQ.block_normal ?_
          refine AQ.next ?_
          refine CW.region ?_
          refine RW.op1 rfl (runs_move rfl) ?_
          refine RW.op1 rfl (runs_add rfl rfl (by omega)) ?_
          refine RW.op1 rfl (runs_assign rfl) ?_
          refine RW.done ?_
          exact AQ.again (x := (k, J, rows, next, Lt)) (k + 1, _, _, _, Lt2) ⟨by dsimp only; omega, by dsimp only; omega, hle, hl, hd2, hdu, by dsimp only; rw [absT_del]; exact hti.del _, Nat.le_trans (pdel_len _ _) (by dsimp only; omega), hst.sub (List.Sublist.append (List.Sublist.refl _) (List.sublist_cons_self _ _))⟩ ⟨rfl, rfl, rfl, rfl, rfl, trivial⟩ (by dsimp only; omega)
        · have hcb51 := hc51
          try simp only [decide_eq_true_eq, decide_eq_false_iff_not] at hc51
          refine CW.region ?_
          refine RW.op1 rfl (runs_move rfl) ?_
          refine RW.op1 rfl (runs_loadN (vs := [.int .i64 (it).id, .int .i64 (it).kind, .int .i64 (it).group, .string (it).name, .string (it).method, .string (it).url, vh, .string (it).body, .int .i64 (it).mode, .int .i64 (it).creds, .string (it).page, .string (it).csp, .int .i64 (it).refer, .string (it).nurl, .string (it).nmethod, .string (it).nbody, .int .i64 (it).hops, .int .i64 (it).tries, .int .i64 (it).til, .bool (it).tainted, .string (it).got, .string (it).tag, .int .i64 (it).state, .int .i64 (it).code, .bool (it).acked]) ag36 ti36 rfl hst (k := 0) rfl rfl rfl) ?_
          refine RW.call rfl call10 rfl rfl (put_spec hd (hst.perm (List.perm_middle (l₁ := Lt)).symm) (hvh.srcH _) (by have := hsm.len; omega) (by unfold i64ok; omega)) ?_
          rintro e w ⟨J58, v58, Lt2, hJ58, rfl, hstn, hd2⟩
          clear hst
          have hst := hstn
          clear hstn
          replace hl := hl.mono hJ58
          replace hd := hd.mono hJ58
          replace hdu := hdu.mono hJ58
          replace hvh := hvh.mono hJ58
          replace hle := hle.trans hJ58
          refine ⟨_, rfl, ?_⟩
          refine RW.done ?_
          refine AQ.block_normal ?_
          refine AQ.next ?_
          refine CW.region ?_
          refine RW.op1 rfl (runs_move rfl) ?_
          refine RW.op1 rfl (runs_add rfl rfl (by omega)) ?_
          refine RW.op1 rfl (runs_assign rfl) ?_
          refine RW.done ?_
          exact AQ.again (x := (k, J, rows, next, Lt)) (k + 1, _, _, _, Lt2) ⟨by dsimp only; omega, by dsimp only; omega, hle, hl, hd2, hdu, by dsimp only; rw [absT_put]; exact (hti.put hsm.ok hsm.enc hidr.1 (by omega) (by have := hsm.len; omega)).1, Nat.le_trans (pput_len _ _ _) (by dsimp only; omega), hst.sub (List.Sublist.append (List.Sublist.refl _) (List.sublist_cons_self _ _))⟩ ⟨rfl, rfl, rfl, rfl, rfl, trivial⟩ (by dsimp only; omega)
    · have hcb31 := hc31
      try simp only [decide_eq_true_eq, decide_eq_false_iff_not] at hc31
      skip
      refine CW.exit ?_
      refine AQ.past_exit ?_
      refine AQ.past_exit ?_
      refine AQ.block_hit ?_
      refine AQ.next ?_
      refine CW.seq ?_
      refine CW.region ?_
      refine RW.op1 rfl (runs_move rfl) ?_
      refine RW.call rfl call23 rfl rfl (records_spec hd hst (by omega) hti.rows) ?_
      rintro e w ⟨J61, v61, vs, hJ61, rfl, hstn, hr⟩
      clear hst
      have hst := hstn
      clear hstn
      have hvl : vs.length = (absT rows).length + 1 := by rw [hr.2.1, recsA_len]
      have hal : (absT rows).length = rows.length := by unfold absT; rw [List.length_map]
      replace hl := hl.mono hJ61
      replace hd := hd.mono hJ61
      replace hdu := hdu.mono hJ61
      replace hle := hle.trans hJ61
      refine ⟨_, rfl, ?_⟩
      refine RW.op1 rfl (runs_move rfl) ?_
      refine RW.op1 rfl (runs_extract rfl rfl) ?_
      refine RW.op1 rfl (runs_extract rfl rfl) ?_
      refine RW.op1 rfl (runs_assign rfl) ?_
      refine RW.op1 rfl (runs_assign rfl) ?_
      refine RW.done ?_
      refine AQ.next ?_
      refine CW.seq ?_
      refine CW.seq ?_
      refine CW.region ?_
      refine RW.op1 rfl (runs_move rfl) ?_
      refine RW.op1 rfl (runs_neI rfl rfl) ?_
      refine RW.done ?_
      refine AQ.next ?_
      refine CW.cond rfl (fun hc => absurd hc (by decide)) (fun hc => ?_)
      refine CW.skip ?_
      refine AQ.next ?_
      refine CW.seq ?_
      refine CW.seq ?_
      refine CW.region ?_
      refine RW.op1 rfl (runs_move rfl) ?_
      refine RW.op1 rfl (RdL.len Try.underlying57 rfl hr.1) ?_
      refine RW.op1 rfl (runs_move rfl) ?_
      refine RW.done ?_
      refine AQ.next ?_
      refine CW.block ?_
      refine CW.loop (Nat × Imm × List TRow × Int × Own) (fun x w => I.le x.2.1 ∧ RdR x.2.1 v61 vs (recsA (absT rows) next) ∧ TbO x.2.1 rows next bT Lt ∧ TbO x.2.1 x.2.2.1 x.2.2.2.1 bU x.2.2.2.2 ∧ ((x.1 = 0 ∧ x.2.2.1 = [] ∧ x.2.2.2.1 = 1) ∨ (1 ≤ x.1 ∧ absT x.2.2.1 = mkT (absT rows) (x.1 - 1) ∧ x.2.2.2.1 = next)) ∧ x.1 ≤ vs.length ∧ St w0 w x.2.1 (x.2.2.2.2 ++ (Lt ++ L))) (fun x => [(5, .pointer (some ⟨bT, 0, none⟩)), (6, .pointer (some ⟨bU, 0, none⟩)), (9, v61), (66, v61), (67, .int .i64 (vs.length : Nat)), (68, .int .i64 (x.1 : Int))]) (fun x => vs.length - x.1) ⟨(0, _, [], 1, Lu), ⟨hle, hr, hd, hdu, .inl ⟨rfl, rfl, rfl⟩, Nat.zero_le _, hst.perm (permAB (X := Lt) (Y := Lu))⟩, ⟨rfl, rfl, rfl, rfl, rfl, rfl, trivial⟩⟩ ?_
      clear hle hr hd hdu hst
      rintro ⟨j, J2, rows2, nx2, Lu2⟩ w ⟨hle, hr, hd, hdu, hj, hjl, hstn⟩
      dsimp only at hle hr hd hdu hj hjl hstn ⊢
      have hst := hstn
      clear hstn
      refine CW.seq ?_
      refine CW.region ?_
      refine RW.op1 rfl (runs_lss rfl rfl) ?_
      refine RW.done ?_
      refine AQ.next ?_
      refine CW.seq ?_
      refine CW.cond rfl (fun hc69 => ?_) (fun hc69 => ?_)
      · have hcb69 := hc69
        try simp only [decide_eq_true_eq, decide_eq_false_iff_not] at hc69
        have hj1 : j < vs.length := by omega
        have hjr : j < (recsA (absT rows) next).length := by rw [← hr.2.1]; exact hj1
        obtain ⟨b, hb⟩ : ∃ b, (recsA (absT rows) next)[j]? = some b := ⟨_, List.getElem?_eq_getElem hjr⟩
        have hbl := recsA_bound hti hb
        have hgd : (recsA (absT rows) next).getD j [] = b := by rw [List.getD_eq_getElem?_getD, hb]; rfl
        have hrow := RdR.row hr hj1
        rw [hgd] at hrow
        refine CW.skip ?_
        refine AQ.next ?_
        refine CW.seq ?_
        refine CW.block ?_
        refine CW.seq ?_
        refine CW.region ?_
        refine RW.op1 rfl (RdL.indexAddr Try.underlying57 ti43 (by decide) rfl rfl hr.1 (by omega)) ?_
        refine RW.op1 rfl (runs_load1 sc43 rfl (hst.cell_imm (RdR.at hr (by omega) (by omega)))) ?_
        rw [Int.toNat_natCast]
        refine RW.op1 rfl (runs_assign rfl) ?_
        refine RW.done ?_
        refine AQ.next ?_
        refine CW.seq ?_
        refine CW.region ?_
        refine RW.op1 rfl (runs_move rfl) ?_
        refine RW.op1 rfl (runs_move rfl) ?_
        refine RW.call rfl call18 rfl rfl (apply_spec hdu hst hrow (by omega)) ?_
        rintro e w ⟨J74, rows3, nx3, Lu3, er, hJ74, rfl, hstn, hdu3, hap⟩
        clear hst
        have hst := hstn
        clear hstn
        obtain ⟨rfl, hab, hnx⟩ := remake_step hti hb hj hap
        replace hr := hr.mono hJ74
        replace hd := hd.mono hJ74
        replace hdu := hdu.mono hJ74
        replace hle := hle.trans hJ74
        refine ⟨_, rfl, ?_⟩
        refine RW.op1 rfl (runs_neI rfl rfl) ?_
        refine RW.done ?_
        refine AQ.next ?_
        refine CW.cond rfl (fun hc => absurd hc (by decide)) (fun hc => ?_)
        refine CW.skip ?_
        refine AQ.block_normal ?_
        refine AQ.next ?_
        refine CW.region ?_
        refine RW.op1 rfl (runs_add rfl rfl (by omega)) ?_
        refine RW.op1 rfl (runs_move rfl) ?_
        refine RW.done ?_
        exact AQ.again (x := (j, J2, rows2, nx2, Lu2)) (j + 1, _, rows3, nx3, Lu3) ⟨hle, hr, hd, hdu3, .inr ⟨by dsimp only; omega, by dsimp only; rw [Nat.add_sub_cancel]; exact hab, hnx⟩, by dsimp only; omega, hst⟩ ⟨rfl, rfl, rfl, rfl, rfl, rfl, trivial⟩ (by dsimp only; omega)
      · have hcb69 := hc69
        try simp only [decide_eq_true_eq, decide_eq_false_iff_not] at hc69
        have hje : j = vs.length := by omega
        refine CW.exit ?_
        refine AQ.past_exit ?_
        refine AQ.past_exit ?_
        refine AQ.block_hit ?_
        refine AQ.next ?_
        refine CW.seq ?_
        refine CW.region ?_
        have hab : absT rows2 = mkT (absT rows) (keysUp (absT rows)).length ∧ nx2 = next := by
          rcases hj with ⟨h, _, _⟩ | ⟨_, h2, h3⟩
          · omega
          · refine ⟨?_, h3⟩
            rw [h2, keysUp_len, show j - 1 = (absT rows).length by omega]
        obtain ⟨hab, rfl⟩ := hab
        obtain ⟨ht2, hrec, hkey, hlen2, hget⟩ := remade hti hab
        refine RW.op1 rfl (runs_move rfl) ?_
        refine RW.call rfl call23 rfl rfl (records_spec hdu hst (by omega) ht2.rows) ?_
        rintro e w ⟨J79, v79, vs2, hJ79, rfl, hstn, hr2⟩
        clear hst
        have hst := hstn
        clear hstn
        rw [hrec] at hr2
        have hvl2 : vs2.length = vs.length := by rw [hr2.2.1, hr.2.1]
        replace hr := hr.mono hJ79
        replace hd := hd.mono hJ79
        replace hdu := hdu.mono hJ79
        replace hle := hle.trans hJ79
        refine ⟨_, rfl, ?_⟩
        refine RW.op1 rfl (runs_move rfl) ?_
        refine RW.op1 rfl (runs_extract rfl rfl) ?_
        refine RW.op1 rfl (runs_extract rfl rfl) ?_
        refine RW.op1 rfl (runs_assign rfl) ?_
        refine RW.op1 rfl (runs_assign rfl) ?_
        refine RW.done ?_
        refine AQ.next ?_
        refine CW.seq ?_
        refine CW.seq ?_
        refine CW.region ?_
        refine RW.op1 rfl (runs_move rfl) ?_
        refine RW.op1 rfl (runs_neI rfl rfl) ?_
        refine RW.op1 rfl (runs_move rfl) ?_
        have hk84 := (show decide ((0 : Int) ≠ 0) = false from by decide)
        refine RW.on_guard rfl rfl rfl rfl hk84 ?_
        refine RW.op1 rfl (runs_move rfl) ?_
        refine RW.on_guard rfl rfl rfl rfl hk84 ?_
        refine RW.op1 rfl (RdL.len Try.underlying57 rfl hr.1) ?_
        refine RW.on_guard rfl rfl rfl rfl hk84 ?_
        refine RW.op1 rfl (runs_move rfl) ?_
        refine RW.on_guard rfl rfl rfl rfl hk84 ?_
        refine RW.op1 rfl (RdL.len Try.underlying57 rfl hr2.1) ?_
        rw [hvl2]
        refine RW.on_guard rfl rfl rfl rfl hk84 ?_
        refine RW.op1 rfl (runs_neI rfl rfl) ?_
        refine RW.op1 rfl (runs_pick_false rfl hk84 rfl) ?_
        refine RW.op1 rfl (runs_move rfl) ?_
        have hk91 := (neSelf (vs.length : Int))
        refine RW.on_guard rfl rfl rfl rfl hk91 ?_
        refine RW.op1 rfl (runs_move rfl) ?_
        refine RW.on_guard rfl rfl rfl rfl hk91 ?_
        refine RW.call rfl call11 rfl rfl (next_spec hdu hst) ?_
        rintro e w ⟨rfl, hstn⟩
        clear hst
        have hst := hstn
        clear hstn
        refine ⟨_, rfl, ?_⟩
        refine RW.on_guard rfl rfl rfl rfl hk91 ?_
        refine RW.op1 rfl (runs_move rfl) ?_
        refine RW.on_guard rfl rfl rfl rfl hk91 ?_
        refine RW.call rfl call11 rfl rfl (next_spec hd (hst.perm (permAB (X := Lu2) (Y := Lt)))) ?_
        rintro e w ⟨rfl, hstn⟩
        clear hst
        have hst := hstn
        clear hstn
        refine ⟨_, rfl, ?_⟩
        refine RW.on_guard rfl rfl rfl rfl hk91 ?_
        refine RW.op1 rfl (runs_neI rfl rfl) ?_
        refine RW.op1 rfl (runs_pick_false rfl hk91 rfl) ?_
        refine RW.op1 rfl (runs_move rfl) ?_
        have hk98 := (neSelf nx2)
        refine RW.on_guard rfl rfl rfl rfl hk98 ?_
        refine RW.op1 rfl (runs_move rfl) ?_
        refine RW.on_guard rfl rfl rfl rfl hk98 ?_
        refine RW.call rfl call12 rfl rfl (ids_spec hdu (hst.perm (permAB (X := Lt) (Y := Lu2))) (by omega)) ?_
        rintro e w ⟨J100, v100, hJ100, rfl, hstn, hv100⟩
        clear hst
        have hst := hstn
        clear hstn
        replace hr := hr.mono hJ100
        replace hd := hd.mono hJ100
        replace hdu := hdu.mono hJ100
        replace hr2 := hr2.mono hJ100
        replace hle := hle.trans hJ100
        refine ⟨_, rfl, ?_⟩
        refine RW.on_guard rfl rfl rfl rfl hk98 ?_
        refine RW.op1 rfl (runs_move rfl) ?_
        refine RW.on_guard rfl rfl rfl rfl hk98 ?_
        refine RW.call rfl call12 rfl rfl (ids_spec hd (hst.perm (permAB (X := Lu2) (Y := Lt))) (by omega)) ?_
        rintro e w ⟨J102, v102, hJ102, rfl, hstn, hv102⟩
        clear hst
        have hst := hstn
        clear hstn
        rw [hkey, absT_keysUp] at hv100
        replace hr := hr.mono hJ102
        replace hd := hd.mono hJ102
        replace hdu := hdu.mono hJ102
        replace hr2 := hr2.mono hJ102
        replace hv100 := hv100.mono hJ102
        replace hle := hle.trans hJ102
        refine ⟨_, rfl, ?_⟩
        refine RW.on_guard rfl rfl rfl rfl hk98 ?_
        refine RW.call rfl call24 rfl rfl (sameI_spec hst hv100 hv102 (by rw [keysUp_len]; omega)) ?_
        rintro e w ⟨rfl, hstn⟩
        clear hst
        have hst := hstn
        clear hstn
        refine ⟨_, rfl, ?_⟩
        refine RW.on_guard rfl rfl rfl rfl hk98 ?_
        refine RW.op1 rfl (runs_not rfl) ?_
        refine RW.op1 rfl (runs_pick_false rfl hk98 rfl) ?_
        refine RW.done ?_
        refine AQ.next ?_
        refine CW.cond rfl (fun hc => absurd hc (by decide)) (fun hc => ?_)
        refine CW.skip ?_
        refine AQ.next ?_
        refine CW.seq ?_
        refine CW.seq ?_
        refine CW.region ?_
        refine RW.op1 rfl (runs_move rfl) ?_
        refine RW.op1 rfl (RdL.len Try.underlying57 rfl hr.1) ?_
        refine RW.op1 rfl (runs_move rfl) ?_
        refine RW.done ?_
        refine AQ.next ?_
        refine CW.block ?_
        refine CW.loop (Nat × Imm) (fun x w => I.le x.2 ∧ RdR x.2 v61 vs (recsA (absT rows) nx2) ∧ RdR x.2 v79 vs2 (recsA (absT rows) nx2) ∧ TbO x.2 rows nx2 bT Lt ∧ x.1 ≤ vs.length ∧ St w0 w x.2 (Lt ++ (Lu2 ++ L))) (fun x => [(5, .pointer (some ⟨bT, 0, none⟩)), (9, v61), (13, v79), (107, .int .i64 (vs.length : Nat)), (108, .int .i64 (x.1 : Int))]) (fun x => vs.length - x.1) ⟨(0, _), ⟨hle, hr, hr2, hd, Nat.zero_le _, hst⟩, ⟨rfl, rfl, rfl, rfl, rfl, trivial⟩⟩ ?_
        clear hle hr hr2 hd hst
        rintro ⟨i, J3⟩ w ⟨hle, hr, hr2, hd, hil, hstn⟩
        dsimp only at hle hr hr2 hd hil hstn ⊢
        have hst := hstn
        clear hstn
        refine CW.seq ?_
        refine CW.region ?_
        refine RW.op1 rfl (runs_lss rfl rfl) ?_
        refine RW.done ?_
        refine AQ.next ?_
        refine CW.seq ?_
        refine CW.cond rfl (fun hc109 => ?_) (fun hc109 => ?_)
        · have hcb109 := hc109
          try simp only [decide_eq_true_eq, decide_eq_false_iff_not] at hc109
          have hi1 : i < vs.length := by omega
          have hi2 : i < vs2.length := by omega
          have hrw1 := RdR.row hr hi1
          have hrw2 := RdR.row hr2 hi2
          obtain ⟨b, hb⟩ : ∃ b, (recsA (absT rows) nx2)[i]? = some b := ⟨_, List.getElem?_eq_getElem (by rw [← hr.2.1]; exact hi1)⟩
          have hbl := recsA_bound hti hb
          have hgd : (recsA (absT rows) nx2).getD i [] = b := by rw [List.getD_eq_getElem?_getD, hb]; rfl
          rw [hgd] at hrw1 hrw2
          refine CW.skip ?_
          refine AQ.next ?_
          refine CW.seq ?_
          refine CW.block ?_
          refine CW.seq ?_
          refine CW.region ?_
          refine RW.op1 rfl (runs_move rfl) ?_
          refine RW.op1 rfl (runs_assign rfl) ?_
          refine RW.done ?_
          refine AQ.next ?_
          refine CW.seq ?_
          refine CW.drawSt hst (.q 0 (.q 1 (.q 2 (.q 3 (.q 4 (.q 5 (.q 6 (.q 7 (.l 8 (.q 9 .nil)))))))))) follows (by kernel_rfl) (fun w hst => ?_)
          refine DRW.q rfl rfl (fun w' hF => runs_move rfl) ?_
          refine DRW.q rfl rfl (fun w' hF => runs_move rfl) ?_
          refine DRW.q rfl rfl (fun w' hF => RdL.indexAddr Try.underlying57 ti43 (by decide) rfl rfl hr.1 (by omega)) ?_
          refine DRW.q rfl rfl (FSt.load1 sc43 rfl (RdR.at hr (by omega) (by omega))) ?_
          refine DRW.q rfl rfl (fun w' hF => runs_move rfl) ?_
          refine DRW.q rfl rfl (fun w' hF => runs_move rfl) ?_
          refine DRW.q rfl rfl (fun w' hF => RdL.indexAddr Try.underlying57 ti43 (by decide) rfl rfl hr2.1 (by omega)) ?_
          refine DRW.q rfl rfl (FSt.load1 sc43 rfl (RdR.at hr2 (by omega) (by omega))) ?_
          refine DRW.call rfl rfl call17 rfl rfl (same_spec hst hrw1 hrw2 (by omega)) ?_
          rintro e w ⟨rfl, hstn⟩
          clear hst
          have hst := hstn
          clear hstn
          refine ⟨_, rfl, FSt.of hst (Imm.le.refl _) (by first | exact (List.sublist_cons_self _ _).trans (List.sublist_append_right _ _) | exact List.Sublist.refl _ | exact List.sublist_cons_self _ _ | exact List.sublist_append_right _ _ | exact (List.sublist_cons_self _ _).trans (List.sublist_cons_self _ _) | exact (List.sublist_append_right _ _).trans (List.sublist_cons_self _ _) | simp), ?_⟩
          refine DRW.q rfl rfl (fun w' hF => runs_not rfl) ?_
          refine DRW.done ?_
          refine AQ.next ?_
          refine CW.cond rfl (fun hc => absurd hc (by simp)) (fun hc => ?_)
          refine CW.skip ?_
          refine AQ.block_normal ?_
          refine AQ.next ?_
          refine CW.region ?_
          refine RW.op1 rfl (runs_add rfl rfl (by omega)) ?_
          refine RW.op1 rfl (runs_move rfl) ?_
          refine RW.done ?_
          exact AQ.again (x := (i, J3)) (i + 1, _) ⟨hle, hr, hr2, hd, by dsimp only; omega, hst⟩ ⟨rfl, rfl, rfl, rfl, rfl, trivial⟩ (by dsimp only; omega)
        · have hcb109 := hc109
          try simp only [decide_eq_true_eq, decide_eq_false_iff_not] at hc109
          skip
          refine CW.exit ?_
          refine AQ.past_exit ?_
          refine AQ.past_exit ?_
          refine AQ.block_hit ?_
          refine AQ.next ?_
          refine CW.seq ?_
          refine CW.region ?_
          refine RW.op1 rfl (runs_move rfl) ?_
          refine RW.op1 rfl (RdL.len Try.underlying57 rfl hr.1) ?_
          refine RW.op1 rfl (runs_move rfl) ?_
          refine RW.call rfl call12 rfl rfl (ids_spec hd hst (by omega)) ?_
          rintro e w ⟨J125, v125, hJ125, rfl, hstn, hv125⟩
          clear hst
          have hst := hstn
          clear hstn
          have hkl := keysUp_len rows
          replace hr := hr.mono hJ125
          replace hr2 := hr2.mono hJ125
          replace hd := hd.mono hJ125
          replace hle := hle.trans hJ125
          refine ⟨_, rfl, ?_⟩
          refine RW.op1 rfl (RdL.len Try.underlying22 rfl hv125) ?_
          refine RW.op1 rfl (runs_add rfl rfl (by omega)) ?_
          refine RW.op1 rfl (runs_eqI rfl rfl) ?_
          refine RW.op1 rfl (runs_move rfl) ?_
          have hk129 := (show decide ((vs.length : Int) = (keysUp rows).length + 1) = true from by rw [decide_eq_true_eq]; omega)
          refine RW.on_guard rfl rfl rfl rfl hk129 ?_
          refine RW.call rfl call14 rfl rfl (wakes18_spec hst) ?_
          rintro e w ⟨rfl, J130, hJ130, hstn⟩
          clear hst
          have hst := hstn
          clear hstn
          replace hr := hr.mono hJ130
          replace hr2 := hr2.mono hJ130
          replace hd := hd.mono hJ130
          replace hv125 := hv125.mono hJ130
          replace hle := hle.trans hJ130
          refine ⟨_, rfl, ?_⟩
          refine RW.op1 rfl (runs_pick_true rfl hk129 rfl) ?_
          refine RW.op1 rfl (runs_assign rfl) ?_
          refine RW.done ?_
          refine AQ.next ?_
          refine CW.ret ?_
          refine AQ.ret1 rfl rfl ?_
          exact ⟨rfl, _, hle, (hst.sub (List.sublist_append_right _ _)).sub (List.sublist_append_right _ _)⟩
end Go.Proofs.YtlmmpcdjkpibcaaX
