/- Parts of a proof, joined: walks through the program's functions and their laws, in the order in which they need each other. -/
import Derived.Test.YtlmmpcdjkpibcaaGreatPYb
import Derived.Test.YtlmmpcdjkpibcaaGreatPYf
import Derived.Lib.SplitLaws
import Derived.Lib.SlicesS
namespace Go.Proofs.YtlmmpcdjkpibcaaGreatX
set_option linter.unusedVariables false
set_option linter.unusedSimpArgs false
open Go Go.RowKit Go.Proofs
set_option maxRecDepth 100000 in
set_option maxHeartbeats 4000000 in
theorem same18_spec {w0 w : World} {I : Imm} {L : Own} {rows : List TRow} {next : Int} {bT : Nat} {Lt : Own} (hd : TbO I rows next bT Lt) (hst : St w0 w I (Lt ++ L)) {v : Value} {its : List (It × Value)} (hv : RdT I v its) (hok : ItsOk its) (htr : Tr its (absT rows)) (hneg : ∀ p ∈ its, 0 ≤ p.1.id) (hlen : its.length ≤ 1000) :
    Calls Tryz.prog 15 #[.pointer (some ⟨bT, 0, none⟩), v, .int .i64 next] w fun e w' => ∃ I', I.le I' ∧ e = .returned (.bool true) ∧ St w0 w' I' (Lt ++ L) := by
  have hnd : (rows.map Prod.fst).Nodup := by obtain ⟨_, _, _, _, h, _⟩ := hd; exact h
  have hks : keysUp rows = its.map fun p => p.1.id := by
    rw [← absT_keysUp]; exact htr.keys (by rw [absT_keys]; exact hnd)
  have hrl : rows.length = its.length := by
    have := congrArg List.length hks; rw [keysUp_len, List.length_map] at this; exact this
  have hno : (pget rows (-1)).isSome = false := absT_none (by
    cases hp : pget (absT rows) (-1) with
    | none => rfl
    | some it =>
      obtain ⟨v2, h1, h2⟩ := htr.has _ _ hp; have := hneg _ h1; dsimp only at this
      omega)
  refine enter Tryz.func15 rfl (N := 62) rfl rfl ?_
  simp only [List.zipIdx_cons, List.zipIdx_nil, List.map_cons, List.map_nil, Nat.zero_add, Nat.reduceAdd]
  have hle := Imm.le.refl I; refine CW.seq ?_; refine CW.region ?_; refine RW.op1 rfl (runs_assign rfl) ?_; refine RW.done ?_; refine AQ.next ?_; refine CW.seq ?_; refine CW.seq ?_; refine CW.region ?_; refine RW.op1 rfl (runs_move rfl) ?_; refine RW.op1 rfl (runs_eq_nilptr Tryz.underlying23 rfl) ?_; refine RW.op1 rfl (runs_move rfl) ?_; have hk16 := (show (some (⟨bT, 0, none⟩ : Addr)).isNone = false from rfl); refine RW.on_guard rfl rfl rfl rfl hk16 ?_; refine RW.op1 rfl (runs_move rfl) ?_; refine RW.on_guard rfl rfl rfl rfl hk16 ?_; refine RW.call rfl call35 rfl rfl (next_spec hd hst) ?_; rintro e w ⟨rfl, hstn⟩; clear hst; have hst := hstn; clear hstn; refine ⟨_, rfl, ?_⟩; refine RW.on_guard rfl rfl rfl rfl hk16 ?_; refine RW.op1 rfl (runs_move rfl) ?_; refine RW.on_guard rfl rfl rfl rfl hk16 ?_; refine RW.op1 rfl (runs_neI rfl rfl) ?_; refine RW.op1 rfl (runs_pick_false rfl hk16 rfl) ?_; refine RW.done ?_; refine AQ.next ?_; refine CW.cond rfl (fun hc => absurd hc (by simp)) (fun hc => ?_); refine CW.skip ?_; refine AQ.next ?_; refine CW.seq ?_; refine CW.region ?_; refine RW.op1 rfl (runs_assign rfl) ?_; refine RW.done ?_; refine AQ.next ?_; refine CW.seq ?_; refine CW.seq ?_; refine CW.region ?_; refine RW.op1 rfl (runs_move rfl) ?_; refine RW.op1 rfl (RdL.len Tryz.underlying25 rfl hv.1) ?_; refine RW.op1 rfl (runs_move rfl) ?_; refine RW.done ?_; refine AQ.next ?_; refine CW.block ?_
  refine CW.loop (Nat × Imm × Value × Own) (fun x w => I.le x.2.1 ∧ RdT x.2.1 v its ∧ TbO x.2.1 rows next bT Lt ∧ Grow 3 1 x.2.2.1 x.1 (((its.take x.1).map fun p => p.1.id).map i64) x.2.2.2 ∧ x.1 ≤ its.length ∧ St w0 w x.2.1 (x.2.2.2 ++ (Lt ++ L))) (fun x => [(0, .pointer (some ⟨bT, 0, none⟩)), (1, v), (2, .int .i64 next), (7, x.2.2.1), (22, v), (23, .int .i64 (its.length : Nat)), (24, .int .i64 (x.1 : Int))]) (fun x => its.length - x.1) ⟨(0, _, _, []), ⟨hle, hv, hd, Grow.nil _ _, Nat.zero_le _, hst⟩, ⟨rfl, rfl, rfl, rfl, rfl, rfl, rfl, trivial⟩⟩ ?_; clear hle hv hd hst; rintro ⟨k, J, vo, Lo⟩ w ⟨hle, hv, hd, hg, hk, hstn⟩; dsimp only at hle hv hd hg hk hstn ⊢; have hst := hstn; clear hstn; refine CW.seq ?_; refine CW.region ?_; refine RW.op1 rfl (runs_lss rfl rfl) ?_; refine RW.done ?_; refine AQ.next ?_; refine CW.seq ?_; refine CW.cond rfl (fun hc25 => ?_) (fun hc25 => ?_)
  · have hcb25 := hc25; try simp only [decide_eq_true_eq, decide_eq_false_iff_not] at hc25
    have hk1 : k < its.length := by omega
    obtain ⟨⟨it, vh⟩, hr⟩ : ∃ p, its[k]? = some p := ⟨_, List.getElem?_eq_getElem hk1⟩; have hin : (it, vh) ∈ its := List.mem_of_getElem? hr; have hvh := hv.2 _ hin; obtain ⟨o1, o2, o3⟩ := hok _ hin; obtain ⟨hso, hge⟩ := absT_some (htr.get _ hin)
    have htk : ((its.take (k + 1)).map fun p => p.1.id) = ((its.take k).map fun p => p.1.id) ++ [it.id] := by
      rw [List.take_add_one, hr, List.map_append]
      rfl
    dsimp only at hvh o1 o2 o3 hso hge; refine CW.skip ?_; refine AQ.next ?_; refine CW.seq ?_; refine CW.block ?_; refine CW.seq ?_; refine CW.region ?_; refine RW.op1 rfl (RdL.indexAddr Tryz.underlying25 ti32 (by decide) rfl rfl hv.1 (by omega)) ?_; refine RW.op1 rfl (RdL.loadRow (row := irow2 it vh) ag32 ti32 rfl hv.1 hst rfl (irow_at hr)) ?_; refine RW.opE rfl (runs_alloc ti32 hst) ?_; rintro _ w ⟨b2, rfl, hstn⟩; clear hst; have hst := hstn; clear hstn; refine RW.opE0 (runs_storeW ti32 rfl rfl hst (k := 0) rfl rfl rfl (NoFz.zero _) (it_one it hvh.one)) ?_; rintro w hstn; clear hst; have hst := hstn; clear hstn; try simp only [List.set_cons_zero, List.set_cons_succ] at hst
    refine RW.done ?_; refine AQ.next ?_; refine CW.seq ?_; refine CW.region ?_; refine RW.op1 rfl (runs_move rfl) ?_
    refine RW.op1 rfl (runs_fieldAddr0 rfl Tryz.underlying32 rfl ti3 (by decide)) ?_
    refine RW.op1 rfl (runs_load1 sc3 rfl (hst.cell_own (k := 0) rfl rfl)) ?_
    refine RW.opE rfl (runs_lit1R Tryz.underlying22 ti3 (by decide) rfl rfl rfl (by simp [Value.oneCell']) hst) ?_; rintro u4 w ⟨I4, hI4, hstn, h4⟩; clear hst; have hst := hstn; clear hstn; replace hv := hv.mono hI4; replace hd := hd.mono hI4; replace hle := hle.trans hI4; have hT := h4; refine RW.opE rfl (runs_appendRA [_] Tryz.underlying22 ti3 rfl (by decide) rfl rfl hst hg hT (by omega) (by unfold maxLen; omega)) ?_; rintro uN w ⟨LvN, hstn, hgN⟩; clear hst; have hst := hstn; clear hstn; replace hst : St w0 w _ (_ :: (LvN ++ (Lt ++ L))) := hst; refine RW.op1 rfl (runs_assign rfl) ?_; refine RW.done ?_; refine AQ.next ?_; refine CW.seq ?_; refine CW.region ?_; refine RW.op1 rfl (runs_move rfl) ?_
    refine RW.op1 rfl (runs_fieldAddr0 rfl Tryz.underlying32 rfl ti3 (by decide)) ?_
    refine RW.op1 rfl (runs_load1 sc3 rfl (hst.cell_own (k := 0) rfl rfl)) ?_
    refine RW.call rfl call36 rfl rfl (get_spec hd (hst.perm permO) it.id) ?_; rintro e w ⟨it2, v37, Lv37, rfl, hstn, hv37, hg37, _, he37⟩; clear hst; have hst := hstn; clear hstn; rw [hge] at he37; subst he37; rw [hso]; obtain ⟨J37, hJ37, hst37, hfz⟩ := hg37.freeze hst; clear hst; replace hst37 := hst37.perm (List.perm_middle (l₁ := Lt)); have hst := hst37; clear hst37; replace hv := hv.mono hJ37; replace hd := hd.mono hJ37; replace h4 := h4.mono hJ37; replace hT := hT.mono hJ37; replace hle := hle.trans hJ37; refine ⟨_, rfl, ?_⟩; refine RW.op1 rfl (runs_move rfl) ?_; refine RW.op1 rfl (runs_extract rfl rfl) ?_; refine RW.op1 rfl (runs_extract rfl rfl) ?_; refine RW.opE rfl (runs_alloc ti32 hst) ?_; rintro _ w ⟨b7, rfl, hstn⟩; clear hst; have hst := hstn; clear hstn; refine RW.opE0 (runs_storeW ti32 rfl rfl hst (k := 0) rfl rfl rfl (NoFz.zero _) (it_one it hv37)) ?_; rintro w hstn; clear hst; have hst := hstn; clear hstn; try simp only [List.set_cons_zero, List.set_cons_succ] at hst
    refine RW.op1 rfl (runs_assign rfl) ?_; refine RW.done ?_; refine AQ.next ?_; refine CW.seq ?_; refine CW.region ?_; refine RW.op1 rfl (runs_move rfl) ?_; refine RW.op1 rfl (runs_not rfl) ?_; refine RW.op1 rfl (runs_move rfl) ?_; have hk42 := (show (!true) = false from rfl); refine RW.on_guard rfl rfl rfl rfl hk42 ?_; refine RW.op1 rfl (runs_loadN (vs := [.int .i64 (it).id, .int .i64 (it).kind, .int .i64 (it).group, .string (it).name, .string (it).method, .string (it).url, v37, .string (it).body, .int .i64 (it).mode, .int .i64 (it).creds, .string (it).page, .string (it).csp, .int .i64 (it).refer, .string (it).nurl, .string (it).nmethod, .string (it).nbody, .int .i64 (it).hops, .int .i64 (it).tries, .int .i64 (it).til, .bool (it).tainted, .string (it).got, .string (it).tag, .int .i64 (it).state, .int .i64 (it).code, .bool (it).acked]) ag32 ti32 rfl hst (k := 0) rfl rfl rfl) ?_; refine RW.on_guard rfl rfl rfl rfl hk42 ?_
    refine RW.op1 rfl (runs_loadN (vs := [.int .i64 (it).id, .int .i64 (it).kind, .int .i64 (it).group, .string (it).name, .string (it).method, .string (it).url, vh, .string (it).body, .int .i64 (it).mode, .int .i64 (it).creds, .string (it).page, .string (it).csp, .int .i64 (it).refer, .string (it).nurl, .string (it).nmethod, .string (it).nbody, .int .i64 (it).hops, .int .i64 (it).tries, .int .i64 (it).til, .bool (it).tainted, .string (it).got, .string (it).tag, .int .i64 (it).state, .int .i64 (it).code, .bool (it).acked]) ag32 ti32 rfl hst (k := 1) rfl rfl rfl) ?_; refine RW.on_guard rfl rfl rfl rfl hk42 ?_; refine RW.call rfl call37 rfl rfl (same17_spec hst hfz (hv.2 _ hin) o1 o1 o3 o3 o2 o2) ?_; rintro e w ⟨J45, hJ45, rfl, hstn⟩; clear hst; have hst := hstn; clear hstn; replace hv := hv.mono hJ45; replace hd := hd.mono hJ45; replace h4 := h4.mono hJ45; replace hT := hT.mono hJ45; replace hfz := hfz.mono hJ45; replace hle := hle.trans hJ45; refine ⟨_, rfl, ?_⟩; refine RW.on_guard rfl rfl rfl rfl hk42 ?_; refine RW.op1 rfl (runs_not rfl) ?_; refine RW.op1 rfl (runs_pick_false rfl hk42 rfl) ?_; refine RW.done ?_; refine AQ.next ?_; refine CW.cond rfl (fun hc => absurd hc (by simp)) (fun hc => ?_); refine CW.skip ?_; refine AQ.block_normal ?_; refine AQ.next ?_; refine CW.region ?_; refine RW.op1 rfl (runs_add rfl rfl (by omega)) ?_; refine RW.op1 rfl (runs_move rfl) ?_; refine RW.done ?_
    exact AQ.again (x := (k, J, vo, Lo)) (k + 1, _, uN, LvN) ⟨hle, hv, hd, by dsimp only; rw [htk, List.map_append]; exact hgN, by dsimp only; omega, hst.drop1.drop1.perm permAB⟩ ⟨rfl, rfl, rfl, rfl, rfl, rfl, rfl, trivial⟩ (by dsimp only; omega)
  · have hcb25 := hc25; try simp only [decide_eq_true_eq, decide_eq_false_iff_not] at hc25
    have hke : k = its.length := by omega
    refine CW.exit ?_; refine AQ.past_exit ?_; refine AQ.past_exit ?_; refine AQ.block_hit ?_; refine AQ.next ?_; refine CW.seq ?_; refine CW.region ?_; obtain ⟨J12, hJ12, hst12, hids⟩ := hg.freeze hst; clear hst; have hst := hst12; clear hst12; replace hv := hv.mono hJ12; replace hd := hd.mono hJ12; replace hle := hle.trans hJ12; rw [hke, List.take_length] at hids
    have hids2 : RdI J12 vo (its.map fun p => p.1.id) := by
      unfold RdI; rw [List.length_map]; exact hids
    refine RW.op1 rfl (runs_move rfl) ?_; refine RW.call rfl call36 rfl rfl (get_spec hd hst (-1)) ?_; rintro e w ⟨it2, v51, Lv51, rfl, hstn, hv51, _, _, _⟩; clear hst; have hst := hstn; clear hstn; rw [hno]; replace hst := hst.dropF; refine ⟨_, rfl, ?_⟩; refine RW.op1 rfl (runs_move rfl) ?_; refine RW.op1 rfl (runs_extract rfl rfl) ?_; refine RW.op1 rfl (runs_extract rfl rfl) ?_; refine RW.opE rfl (runs_alloc ti32 hst) ?_; rintro _ w ⟨b11, rfl, hstn⟩; clear hst; have hst := hstn; clear hstn; refine RW.opE0 (runs_storeW ti32 rfl rfl hst (k := 0) rfl rfl rfl (NoFz.zero _) (it_one it2 hv51)) ?_; rintro w hstn; clear hst; have hst := hstn; clear hstn; try simp only [List.set_cons_zero, List.set_cons_succ] at hst
    refine RW.op1 rfl (runs_assign rfl) ?_; replace hst := hst.drop1; refine RW.done ?_; refine AQ.next ?_; refine CW.seq ?_; refine CW.region ?_; refine RW.op1 rfl (runs_move rfl) ?_; refine RW.call rfl call34 rfl rfl (ids_spec hd hst (by omega)) ?_; rintro e w ⟨J55, v55, hJ55, rfl, hstn, hv55⟩; clear hst; have hst := hstn; clear hstn; rw [hks] at hv55; replace hd := hd.mono hJ55; replace hids2 := hids2.mono hJ55; replace hle := hle.trans hJ55; refine ⟨_, rfl, ?_⟩; refine RW.op1 rfl (runs_move rfl) ?_; refine RW.call rfl call38 rfl rfl (sameI_spec hst hv55 hids2 (by rw [List.length_map]; omega)) ?_; rintro e w ⟨rfl, hstn⟩; clear hst; have hst := hstn; clear hstn; refine ⟨_, rfl, ?_⟩; refine RW.op1 rfl (runs_move rfl) ?_; have hk58 := (show (true : Bool) = true from rfl); refine RW.on_guard rfl rfl rfl rfl hk58 ?_; refine RW.op1 rfl (runs_move rfl) ?_; refine RW.on_guard rfl rfl rfl rfl hk58 ?_; refine RW.op1 rfl (runs_not rfl) ?_; refine RW.op1 rfl (runs_pick_true rfl hk58 rfl) ?_; refine RW.op1 rfl (runs_assign rfl) ?_; refine RW.done ?_; refine AQ.next ?_; refine CW.ret ?_; refine AQ.ret1 rfl rfl ?_; exact ⟨_, hle, rfl, hst⟩
set_option maxRecDepth 100000 in
set_option maxHeartbeats 4000000 in
theorem put18_spec {w0 w : World} {I : Imm} {L : Own} (hst : St w0 w I L) {v : Value} {its : List (It × Value)} (hv : RdT I v its) {x : It} {vx : Value} (hvx : RdH I vx x.heads) (hlen : its.length ≤ 1000) :
    Calls Tryz.prog 8 #[v, itv x vx] w fun e w' => ∃ I' v', I.le I' ∧ e = .returned v' ∧ RdT I' v' (putT its (x, vx)) ∧ St w0 w' I' L := by
  refine enter Tryz.func8 rfl (N := 45) rfl rfl ?_
  simp only [List.zipIdx_cons, List.zipIdx_nil, List.map_cons, List.map_nil, Nat.zero_add, Nat.reduceAdd]
  have hle := Imm.le.refl I; refine CW.seq ?_; refine CW.region ?_; refine RW.opE rfl (runs_box rfl hst) ?_; rintro _ w ⟨b1, rfl, hstn⟩; clear hst; have hst := hstn; clear hstn; refine RW.op1 rfl (runs_assign rfl) ?_; refine RW.done ?_; refine AQ.next ?_; refine CW.seq ?_; refine CW.region ?_; refine RW.op1 rfl (runs_assign rfl) ?_; refine RW.done ?_; refine AQ.next ?_; refine CW.seq ?_; refine CW.region ?_; refine RW.op1 rfl (runs_assign rfl) ?_; refine RW.done ?_; refine AQ.next ?_; refine CW.seq ?_; refine CW.seq ?_; refine CW.region ?_; refine RW.op1 rfl (runs_move rfl) ?_; refine RW.op1 rfl (RdL.len Tryz.underlying25 rfl hv.1) ?_; refine RW.op1 rfl (runs_move rfl) ?_; refine RW.done ?_; refine AQ.next ?_; refine CW.block ?_; refine CW.loop (Nat × Imm × Value × Own) (fun y w => I.le y.2.1 ∧ RdT y.2.1 v its ∧ RdH y.2.1 vx x.heads ∧ Grow 32 25 y.2.2.1 ((putA (its.take y.1) (x, vx)).1).length (((putA (its.take y.1) (x, vx)).1).flatMap irow) y.2.2.2 ∧ y.1 ≤ its.length ∧ St w0 w y.2.1 ((b1, Obj.cells (irow2 x vx).toArray 32) :: (y.2.2.2 ++ L))) (fun y => [(3, .pointer (some ⟨b1, 0, none⟩)), (5, y.2.2.1), (6, .bool (putA (its.take y.1) (x, vx)).2), (9, v), (10, .int .i64 (its.length : Nat)), (11, .int .i64 (y.1 : Int))]) (fun y => its.length - y.1) ⟨(0, _, _, []), ⟨hle, hv, hvx, Grow.nil _ _, Nat.zero_le _, hst⟩, ⟨rfl, rfl, rfl, rfl, rfl, rfl, trivial⟩⟩ ?_; clear hle hv hvx hst; rintro ⟨k, J, vo, Lo⟩ w ⟨hle, hv, hvx, hg, hk, hstn⟩; dsimp only at hle hv hvx hg hk hstn ⊢
  have hst := hstn; clear hstn; refine CW.seq ?_; refine CW.region ?_; refine RW.op1 rfl (runs_lss rfl rfl) ?_; refine RW.done ?_; refine AQ.next ?_; refine CW.seq ?_; refine CW.cond rfl (fun hc12 => ?_) (fun hc12 => ?_)
  · have hcb12 := hc12; try simp only [decide_eq_true_eq, decide_eq_false_iff_not] at hc12
    have hk1 : k < its.length := by omega
    obtain ⟨⟨it, vh⟩, hr⟩ : ∃ p, its[k]? = some p := ⟨_, List.getElem?_eq_getElem hk1⟩; have hin : (it, vh) ∈ its := List.mem_of_getElem? hr; have hvh := hv.2 _ hin; have hpa := putA_succ (x := (x, vx)) hr; have hpl := putA_len (its.take k) (x, vx); have htl := List.length_take_le k its; dsimp only at hvh
    generalize putA (its.take k) (x, vx) = s1 at hg hpa hpl ⊢
    obtain ⟨out, done⟩ := s1; dsimp only at hg hpl ⊢; unfold stepP at hpa; dsimp only at hpa; refine CW.skip ?_; refine AQ.next ?_; refine CW.seq ?_; refine CW.block ?_; refine CW.seq ?_; refine CW.region ?_; refine RW.op1 rfl (RdL.indexAddr Tryz.underlying25 ti32 (by decide) rfl rfl hv.1 (by omega)) ?_; refine RW.op1 rfl (RdL.loadRow (row := irow2 it vh) ag32 ti32 rfl hv.1 hst rfl (irow_at hr)) ?_; refine RW.opE rfl (runs_alloc ti32 hst) ?_; rintro _ w ⟨b8, rfl, hstn⟩; clear hst; have hst := hstn; clear hstn; refine RW.opE0 (runs_storeW ti32 rfl rfl hst (k := 0) rfl rfl rfl (NoFz.zero _) (it_one it hvh.one)) ?_; rintro w hstn; clear hst; have hst := hstn; clear hstn; try simp only [List.set_cons_zero, List.set_cons_succ] at hst
    refine RW.done ?_; refine AQ.next ?_; refine CW.seq ?_; refine CW.seq ?_; refine CW.cut Unit (fun _ w => St w0 w J ((b8, Obj.cells (irow2 it vh).toArray 32) :: (b1, Obj.cells (irow2 x vx).toArray 32) :: (Lo ++ L))) (fun _ => [(3, .pointer (some ⟨b1, 0, none⟩)), (5, vo), (6, .bool done), (8, .pointer (some ⟨b8, 0, none⟩)), (9, v), (10, .int .i64 (its.length : Nat)), (11, .int .i64 (k : Int)), (23, .bool (decide (it.id ≥ x.id ∧ done = false)))]) ?_ ?_
    ·
      refine CW.region ?_
      refine RW.op1 rfl (runs_fieldAddr0 rfl Tryz.underlying32 rfl ti3 (by decide)) ?_
      refine RW.op1 rfl (runs_load1 sc3 rfl (hst.cell_own (k := 0) rfl rfl)) ?_
      refine RW.op1 rfl (runs_fieldAddr0 rfl Tryz.underlying32 rfl ti3 (by decide)) ?_
      refine RW.op1 rfl (runs_load1 sc3 rfl (hst.cell_own (k := 1) rfl rfl)) ?_; refine RW.op1 rfl (runs_geq rfl rfl) ?_; refine RW.op1 rfl (runs_move rfl) ?_; refine RW.split (t := 20) rfl (fun hb20 => ?_) (fun hb20 => ?_)
      · have hb20p := hb20; try simp only [decide_eq_true_eq, decide_eq_false_iff_not] at hb20p
        refine RW.on_guard rfl rfl rfl rfl hb20 ?_; refine RW.op1 rfl (runs_move rfl) ?_; refine RW.on_guard rfl rfl rfl rfl hb20 ?_; refine RW.op1 rfl (runs_not rfl) ?_; refine RW.op1 rfl (runs_pick_true rfl hb20 rfl) ?_; refine RW.done ?_; exact AQ.meet () hst ⟨rfl, rfl, rfl, rfl, rfl, rfl, rfl, boolN (by cases done <;> simp <;> omega), trivial⟩
      · have hb20p := hb20; try simp only [decide_eq_true_eq, decide_eq_false_iff_not] at hb20p
        refine RW.off_guard rfl rfl rfl rfl hb20 ?_; refine RW.off_guard rfl rfl rfl rfl hb20 ?_; refine RW.op1 rfl (runs_pick_false rfl hb20 rfl) ?_; refine RW.done ?_; exact AQ.meet () hst ⟨rfl, rfl, rfl, rfl, rfl, rfl, rfl, boolN (by cases done <;> simp <;> omega), trivial⟩
    · clear hst; rintro _ w hstn; have hst := hstn; clear hstn; refine AQ.next ?_; refine CW.cut (Imm × Value × Own × List (It × Value) × Bool) (fun y w => I.le y.1 ∧ RdT y.1 v its ∧ RdH y.1 vx x.heads ∧ RdH y.1 vh it.heads ∧ Grow 32 25 y.2.1 (y.2.2.2.1).length ((y.2.2.2.1).flatMap irow) y.2.2.1 ∧ y.2.2.2.1.length ≤ 2 * k + 1 ∧ y.2.2.2 = (if it.id ≥ x.id ∧ done = false then (out ++ [(x, vx)], true) else (out, done)) ∧ St w0 w y.1 ((b8, Obj.cells (irow2 it vh).toArray 32) :: (b1, Obj.cells (irow2 x vx).toArray 32) :: (y.2.2.1 ++ L))) (fun y => [(3, .pointer (some ⟨b1, 0, none⟩)), (5, y.2.1), (6, .bool y.2.2.2.2), (8, .pointer (some ⟨b8, 0, none⟩)), (9, v), (10, .int .i64 (its.length : Nat)), (11, .int .i64 (k : Int))]) ?_ ?_
      · refine CW.cond rfl (fun hc23 => ?_) (fun hc23 => ?_)
        · have hcb23 := hc23; try simp only [decide_eq_true_eq, decide_eq_false_iff_not] at hc23
          refine CW.region ?_; refine RW.op1 rfl (runs_move rfl) ?_; refine RW.op1 rfl (runs_loadN (vs := [.int .i64 (x).id, .int .i64 (x).kind, .int .i64 (x).group, .string (x).name, .string (x).method, .string (x).url, vx, .string (x).body, .int .i64 (x).mode, .int .i64 (x).creds, .string (x).page, .string (x).csp, .int .i64 (x).refer, .string (x).nurl, .string (x).nmethod, .string (x).nbody, .int .i64 (x).hops, .int .i64 (x).tries, .int .i64 (x).til, .bool (x).tainted, .string (x).got, .string (x).tag, .int .i64 (x).state, .int .i64 (x).code, .bool (x).acked]) ag32 ti32 rfl hst (k := 1) rfl rfl rfl) ?_; refine RW.opE rfl (runs_litF (xs := [.agg (irow2 x vx).toArray]) Tryz.underlying25 ti32 (by decide) rfl rfl rfl rfl (it_one x hvx.one) hst (by decide)) ?_; rintro u4 w ⟨Lv4, hstn, hg4⟩; clear hst; have hst := hstn; clear hstn; obtain ⟨J4, hJ4, hstn, h4⟩ := Grow.freeze hg4 hst; clear hst; have hst := hstn; clear hstn; replace hv := hv.mono hJ4; replace hvx := hvx.mono hJ4; replace hvh := hvh.mono hJ4; replace hle := hle.trans hJ4; try simp only [List.nil_append] at h4
          replace h4 : RdL J4 25 u4 1 (irow2 x vx) := h4; have hT := h4; refine RW.opE rfl (runs_appendRA [_, _] Tryz.underlying25 ti32 rfl (by decide) rfl rfl hst hg hT (by omega) (by unfold maxLen; omega)) ?_; rintro uN w ⟨LvN, hstn, hgN⟩; clear hst; have hst := hstn; clear hstn; refine RW.op1 rfl (runs_assign rfl) ?_; refine RW.op1 rfl (runs_assign rfl) ?_; refine RW.done ?_
          exact AQ.meet (_, uN, LvN, out ++ [(x, vx)], true) ⟨hle, hv, hvx, hvh, growT_snoc hgN, by dsimp only; rw [List.length_append, List.length_singleton]; omega, by dsimp only; rw [if_pos (of_decide_eq_true hcb23)], hst⟩ ⟨rfl, rfl, rfl, rfl, rfl, rfl, rfl, trivial⟩
        · have hcb23 := hc23; try simp only [decide_eq_true_eq, decide_eq_false_iff_not] at hc23
          refine CW.skip ?_
          exact AQ.meet (_, vo, Lo, out, done) ⟨hle, hv, hvx, hvh, hg, by dsimp only; omega, by dsimp only; rw [if_neg (of_decide_eq_false hcb23)], hst⟩ ⟨rfl, rfl, rfl, rfl, rfl, rfl, rfl, trivial⟩
      · clear hle hv hvx hvh hg hst hpl; rintro ⟨J2, vo2, Lo2, out2, done2⟩ w ⟨hle, hv, hvx, hvh, hg, hpl, he, hstn⟩; dsimp only at hle hv hvx hvh hg hpl he hstn ⊢; have hst := hstn; clear hstn; rw [← he] at hpa; refine AQ.next ?_; refine CW.seq ?_; refine CW.region ?_
        refine RW.op1 rfl (runs_fieldAddr0 rfl Tryz.underlying32 rfl ti3 (by decide)) ?_
        refine RW.op1 rfl (runs_load1 sc3 rfl (hst.cell_own (k := 0) rfl rfl)) ?_
        refine RW.op1 rfl (runs_fieldAddr0 rfl Tryz.underlying32 rfl ti3 (by decide)) ?_
        refine RW.op1 rfl (runs_load1 sc3 rfl (hst.cell_own (k := 1) rfl rfl)) ?_; refine RW.op1 rfl (runs_neI rfl rfl) ?_; refine RW.done ?_; refine AQ.next ?_; refine CW.cond rfl (fun hc32 => ?_) (fun hc32 => ?_)
        · have hcb32 := hc32; try simp only [decide_eq_true_eq, decide_eq_false_iff_not] at hc32
          have hpb : putA (its.take (k + 1)) (x, vx) = (out2 ++ [(it, vh)], done2) := by rw [hpa, if_pos hc32]
          refine CW.region ?_; refine RW.op1 rfl (runs_move rfl) ?_; refine RW.op1 rfl (runs_loadN (vs := [.int .i64 (it).id, .int .i64 (it).kind, .int .i64 (it).group, .string (it).name, .string (it).method, .string (it).url, vh, .string (it).body, .int .i64 (it).mode, .int .i64 (it).creds, .string (it).page, .string (it).csp, .int .i64 (it).refer, .string (it).nurl, .string (it).nmethod, .string (it).nbody, .int .i64 (it).hops, .int .i64 (it).tries, .int .i64 (it).til, .bool (it).tainted, .string (it).got, .string (it).tag, .int .i64 (it).state, .int .i64 (it).code, .bool (it).acked]) ag32 ti32 rfl hst (k := 0) rfl rfl rfl) ?_; refine RW.opE rfl (runs_litF (xs := [.agg (irow2 it vh).toArray]) Tryz.underlying25 ti32 (by decide) rfl rfl rfl rfl (it_one it hvh.one) hst (by decide)) ?_; rintro u6 w ⟨Lv6, hstn, hg6⟩; clear hst; have hst := hstn; clear hstn; obtain ⟨J6, hJ6, hstn, h6⟩ := Grow.freeze hg6 hst; clear hst; have hst := hstn; clear hstn; replace hv := hv.mono hJ6; replace hvx := hvx.mono hJ6; replace hvh := hvh.mono hJ6; replace hle := hle.trans hJ6; try simp only [List.nil_append] at h6
          replace h6 : RdL J6 25 u6 1 (irow2 it vh) := h6; have hT := h6; refine RW.opE rfl (runs_appendRA [_, _] Tryz.underlying25 ti32 rfl (by decide) rfl rfl hst hg hT (by omega) (by unfold maxLen; omega)) ?_; rintro uN w ⟨LvN, hstn, hgN⟩; clear hst; have hst := hstn; clear hstn; refine RW.op1 rfl (runs_assign rfl) ?_; refine RW.done ?_; refine AQ.block_normal ?_; refine AQ.next ?_; refine CW.region ?_; refine RW.op1 rfl (runs_add rfl rfl (by omega)) ?_; refine RW.op1 rfl (runs_move rfl) ?_; refine RW.done ?_; exact AQ.again (x := (k, J, vo, Lo)) (k + 1, _, uN, LvN) ⟨hle, hv, hvx, by dsimp only; rw [hpb]; exact growT_snoc hgN, by dsimp only; omega, hst.drop1⟩ ⟨rfl, rfl, congrArg (fun z => some (Value.bool z)) (congrArg Prod.snd hpb).symm, rfl, rfl, rfl, trivial⟩ (by dsimp only; omega)
        · have hcb32 := hc32; try simp only [decide_eq_true_eq, decide_eq_false_iff_not] at hc32
          have hpb : putA (its.take (k + 1)) (x, vx) = (out2, done2) := by rw [hpa, if_neg (by omega)]
          refine CW.skip ?_; refine AQ.block_normal ?_; refine AQ.next ?_; refine CW.region ?_; refine RW.op1 rfl (runs_add rfl rfl (by omega)) ?_; refine RW.op1 rfl (runs_move rfl) ?_; refine RW.done ?_; exact AQ.again (x := (k, J, vo, Lo)) (k + 1, _, vo2, Lo2) ⟨hle, hv, hvx, by dsimp only; rw [hpb]; exact hg, by dsimp only; omega, hst.drop1⟩ ⟨rfl, rfl, congrArg (fun z => some (Value.bool z)) (congrArg Prod.snd hpb).symm, rfl, rfl, rfl, trivial⟩ (by dsimp only; omega)
  · have hcb12 := hc12; try simp only [decide_eq_true_eq, decide_eq_false_iff_not] at hc12
    have hke : k = its.length := by omega
    subst hke; rw [List.take_length] at hg ⊢; have hpl := putA_len its (x, vx); obtain ⟨⟨out, done⟩, hs⟩ : ∃ s, putA its (x, vx) = s := ⟨_, rfl⟩; rw [hs] at hg hpl ⊢; dsimp only at hg hpl ⊢; refine CW.exit ?_; refine AQ.past_exit ?_; refine AQ.past_exit ?_; refine AQ.block_hit ?_; refine AQ.next ?_; refine CW.seq ?_; refine CW.seq ?_; refine CW.region ?_; refine RW.op1 rfl (runs_move rfl) ?_; refine RW.op1 rfl (runs_not rfl) ?_; refine RW.done ?_; refine AQ.next ?_; refine CW.cond rfl (fun hc39 => ?_) (fun hc39 => ?_)
    · have hcb39 := hc39; try simp only [decide_eq_true_eq, decide_eq_false_iff_not] at hc39
      refine CW.region ?_; refine RW.op1 rfl (runs_move rfl) ?_; refine RW.op1 rfl (runs_loadN (vs := [.int .i64 (x).id, .int .i64 (x).kind, .int .i64 (x).group, .string (x).name, .string (x).method, .string (x).url, vx, .string (x).body, .int .i64 (x).mode, .int .i64 (x).creds, .string (x).page, .string (x).csp, .int .i64 (x).refer, .string (x).nurl, .string (x).nmethod, .string (x).nbody, .int .i64 (x).hops, .int .i64 (x).tries, .int .i64 (x).til, .bool (x).tainted, .string (x).got, .string (x).tag, .int .i64 (x).state, .int .i64 (x).code, .bool (x).acked]) ag32 ti32 rfl hst (k := 0) rfl rfl rfl) ?_; refine RW.opE rfl (runs_litF (xs := [.agg (irow2 x vx).toArray]) Tryz.underlying25 ti32 (by decide) rfl rfl rfl rfl (it_one x hvx.one) hst (by decide)) ?_; rintro u8 w ⟨Lv8, hstn, hg8⟩; clear hst; have hst := hstn; clear hstn; obtain ⟨J8, hJ8, hstn, h8⟩ := Grow.freeze hg8 hst; clear hst; have hst := hstn; clear hstn; replace hv := hv.mono hJ8; replace hvx := hvx.mono hJ8; replace hle := hle.trans hJ8; try simp only [List.nil_append] at h8
      replace h8 : RdL J8 25 u8 1 (irow2 x vx) := h8; have hT := h8; refine RW.opE rfl (runs_appendRA [_] Tryz.underlying25 ti32 rfl (by decide) rfl rfl hst hg hT (by omega) (by unfold maxLen; omega)) ?_; rintro uN w ⟨LvN, hstn, hgN⟩; clear hst; have hst := hstn; clear hstn; refine RW.op1 rfl (runs_assign rfl) ?_; refine RW.done ?_; refine AQ.next ?_; refine CW.seq ?_; refine CW.region ?_; refine RW.op1 rfl (runs_move rfl) ?_; refine RW.op1 rfl (runs_assign rfl) ?_; refine RW.done ?_; refine AQ.next ?_; refine CW.ret ?_; refine AQ.ret1 rfl rfl ?_
      have hd0 : done = false := by simpa using hcb39
      obtain ⟨J9, hJ9, hst9, hr9⟩ := (growT_snoc hgN).freeze hst.drop1
      have hpt : putT its (x, vx) = out ++ [(x, vx)] := by unfold putT; rw [hs, if_neg (by rw [hd0]; exact Bool.false_ne_true)]
      rw [← hpt] at hr9; exact ⟨J9, uN, hle.trans hJ9, rfl, ⟨hr9, fun p hp => (putT_sub hp).elim (fun e => by rw [e]; exact hvx.mono hJ9) (fun h => (hv.2 p h).mono hJ9)⟩, hst9⟩
    · have hcb39 := hc39; try simp only [decide_eq_true_eq, decide_eq_false_iff_not] at hc39
      refine CW.skip ?_; refine AQ.next ?_; refine CW.seq ?_; refine CW.region ?_; refine RW.op1 rfl (runs_move rfl) ?_; refine RW.op1 rfl (runs_assign rfl) ?_; refine RW.done ?_; refine AQ.next ?_; refine CW.ret ?_; refine AQ.ret1 rfl rfl ?_
      have hd0 : done = true := by simpa using hcb39
      obtain ⟨J9, hJ9, hst9, hr9⟩ := hg.freeze hst.drop1
      have hpt : putT its (x, vx) = out := by unfold putT; rw [hs, if_pos hd0]
      rw [← hpt] at hr9; exact ⟨J9, vo, hle.trans hJ9, rfl, ⟨hr9, fun p hp => (putT_sub hp).elim (fun e => by rw [e]; exact hvx.mono hJ9) (fun h => (hv.2 p h).mono hJ9)⟩, hst9⟩
set_option maxRecDepth 100000 in
set_option maxHeartbeats 4000000 in
theorem drop18_spec {w0 w : World} {I : Imm} {L : Own} (hst : St w0 w I L) {v : Value} {its : List (It × Value)} (hv : RdT I v its) (n : Int) (hlen : its.length ≤ 1000) :
    Calls Tryz.prog 11 #[v, .int .i64 n] w fun e w' => ∃ I' v', I.le I' ∧ e = .returned v' ∧ RdT I' v' (dropT its n) ∧ St w0 w' I' L := by
  refine enter Tryz.func11 rfl (N := 24) rfl rfl ?_
  simp only [List.zipIdx_cons, List.zipIdx_nil, List.map_cons, List.map_nil, Nat.zero_add, Nat.reduceAdd]
  have hle := Imm.le.refl I; refine CW.seq ?_; refine CW.region ?_; refine RW.op1 rfl (runs_assign rfl) ?_; refine RW.done ?_; refine AQ.next ?_; refine CW.seq ?_; refine CW.region ?_; refine RW.op1 rfl (runs_assign rfl) ?_; refine RW.done ?_; refine AQ.next ?_; refine CW.seq ?_; refine CW.seq ?_; refine CW.region ?_; refine RW.op1 rfl (runs_move rfl) ?_; refine RW.op1 rfl (RdL.len Tryz.underlying25 rfl hv.1) ?_; refine RW.op1 rfl (runs_move rfl) ?_; refine RW.done ?_; refine AQ.next ?_; refine CW.block ?_; refine CW.loop (Nat × Imm × Value × Own) (fun y w => I.le y.2.1 ∧ RdT y.2.1 v its ∧ Grow 32 25 y.2.2.1 (dropT (its.take y.1) n).length ((dropT (its.take y.1) n).flatMap irow) y.2.2.2 ∧ y.1 ≤ its.length ∧ St w0 w y.2.1 (y.2.2.2 ++ L)) (fun y => [(1, .int .i64 n), (5, y.2.2.1), (8, v), (9, .int .i64 (its.length : Nat)), (10, .int .i64 (y.1 : Int))]) (fun y => its.length - y.1) ⟨(0, _, _, []), ⟨hle, hv, Grow.nil _ _, Nat.zero_le _, hst⟩, ⟨rfl, rfl, rfl, rfl, rfl, trivial⟩⟩ ?_; clear hle hv hst; rintro ⟨k, J, vo, Lo⟩ w ⟨hle, hv, hg, hk, hstn⟩; dsimp only at hle hv hg hk hstn ⊢; have hst := hstn; clear hstn; refine CW.seq ?_; refine CW.region ?_; refine RW.op1 rfl (runs_lss rfl rfl) ?_; refine RW.done ?_; refine AQ.next ?_; refine CW.seq ?_; refine CW.cond rfl (fun hc11 => ?_) (fun hc11 => ?_)
  · have hcb11 := hc11; try simp only [decide_eq_true_eq, decide_eq_false_iff_not] at hc11
    have hk1 : k < its.length := by omega
    obtain ⟨⟨it, vh⟩, hr⟩ : ∃ p, its[k]? = some p := ⟨_, List.getElem?_eq_getElem hk1⟩; have hin : (it, vh) ∈ its := List.mem_of_getElem? hr; have hvh := hv.2 _ hin; have hpa := dropT_succ (n := n) hr; have hpl := dropT_len (its.take k) n; have htl := List.length_take_le k its; dsimp only at hvh hpa
    generalize dropT (its.take k) n = out at hg hpa hpl
    refine CW.skip ?_; refine AQ.next ?_; refine CW.seq ?_; refine CW.block ?_; refine CW.seq ?_; refine CW.region ?_; refine RW.op1 rfl (RdL.indexAddr Tryz.underlying25 ti32 (by decide) rfl rfl hv.1 (by omega)) ?_; refine RW.op1 rfl (RdL.loadRow (row := irow2 it vh) ag32 ti32 rfl hv.1 hst rfl (irow_at hr)) ?_; refine RW.opE rfl (runs_alloc ti32 hst) ?_; rintro _ w ⟨b7, rfl, hstn⟩; clear hst; have hst := hstn; clear hstn; refine RW.opE0 (runs_storeW ti32 rfl rfl hst (k := 0) rfl rfl rfl (NoFz.zero _) (it_one it hvh.one)) ?_; rintro w hstn; clear hst; have hst := hstn; clear hstn; try simp only [List.set_cons_zero, List.set_cons_succ] at hst
    refine RW.done ?_; refine AQ.next ?_; refine CW.seq ?_; refine CW.region ?_
    refine RW.op1 rfl (runs_fieldAddr0 rfl Tryz.underlying32 rfl ti3 (by decide)) ?_
    refine RW.op1 rfl (runs_load1 sc3 rfl (hst.cell_own (k := 0) rfl rfl)) ?_
    refine RW.op1 rfl (runs_move rfl) ?_; refine RW.op1 rfl (runs_neI rfl rfl) ?_; refine RW.done ?_; refine AQ.next ?_; refine CW.cond rfl (fun hc17 => ?_) (fun hc17 => ?_)
    · have hcb17 := hc17; try simp only [decide_eq_true_eq, decide_eq_false_iff_not] at hc17
      rw [if_pos hc17] at hpa; refine CW.region ?_; refine RW.op1 rfl (runs_move rfl) ?_; refine RW.op1 rfl (runs_loadN (vs := [.int .i64 (it).id, .int .i64 (it).kind, .int .i64 (it).group, .string (it).name, .string (it).method, .string (it).url, vh, .string (it).body, .int .i64 (it).mode, .int .i64 (it).creds, .string (it).page, .string (it).csp, .int .i64 (it).refer, .string (it).nurl, .string (it).nmethod, .string (it).nbody, .int .i64 (it).hops, .int .i64 (it).tries, .int .i64 (it).til, .bool (it).tainted, .string (it).got, .string (it).tag, .int .i64 (it).state, .int .i64 (it).code, .bool (it).acked]) ag32 ti32 rfl hst (k := 0) rfl rfl rfl) ?_; refine RW.opE rfl (runs_litF (xs := [.agg (irow2 it vh).toArray]) Tryz.underlying25 ti32 (by decide) rfl rfl rfl rfl (it_one it hvh.one) hst (by decide)) ?_; rintro u3 w ⟨Lv3, hstn, hg3⟩; clear hst; have hst := hstn; clear hstn; obtain ⟨J3, hJ3, hstn, h3⟩ := Grow.freeze hg3 hst; clear hst; have hst := hstn; clear hstn; replace hv := hv.mono hJ3; replace hle := hle.trans hJ3; try simp only [List.nil_append] at h3
      replace h3 : RdL J3 25 u3 1 (irow2 it vh) := h3; have hT := h3; refine RW.opE rfl (runs_appendRA [_] Tryz.underlying25 ti32 rfl (by decide) rfl rfl hst hg hT (by omega) (by unfold maxLen; omega)) ?_; rintro uN w ⟨LvN, hstn, hgN⟩; clear hst; have hst := hstn; clear hstn; refine RW.op1 rfl (runs_assign rfl) ?_; refine RW.done ?_; refine AQ.block_normal ?_; refine AQ.next ?_; refine CW.region ?_; refine RW.op1 rfl (runs_add rfl rfl (by omega)) ?_; refine RW.op1 rfl (runs_move rfl) ?_; refine RW.done ?_; exact AQ.again (x := (k, J, vo, Lo)) (k + 1, _, uN, LvN) ⟨hle, hv, by dsimp only; rw [hpa]; exact growT_snoc hgN, by dsimp only; omega, hst.drop1⟩ ⟨rfl, rfl, rfl, rfl, rfl, trivial⟩ (by dsimp only; omega)
    · have hcb17 := hc17; try simp only [decide_eq_true_eq, decide_eq_false_iff_not] at hc17
      rw [if_neg (by omega)] at hpa; refine CW.skip ?_; refine AQ.block_normal ?_; refine AQ.next ?_; refine CW.region ?_; refine RW.op1 rfl (runs_add rfl rfl (by omega)) ?_; refine RW.op1 rfl (runs_move rfl) ?_; refine RW.done ?_; exact AQ.again (x := (k, J, vo, Lo)) (k + 1, _, vo, Lo) ⟨hle, hv, by dsimp only; rw [hpa]; exact hg, by dsimp only; omega, hst.drop1⟩ ⟨rfl, rfl, rfl, rfl, rfl, trivial⟩ (by dsimp only; omega)
  · have hcb11 := hc11; try simp only [decide_eq_true_eq, decide_eq_false_iff_not] at hc11
    have hke : k = its.length := by omega
    subst hke; rw [List.take_length] at hg; refine CW.exit ?_; refine AQ.past_exit ?_; refine AQ.past_exit ?_; refine AQ.block_hit ?_; refine AQ.next ?_; refine CW.seq ?_; refine CW.region ?_; refine RW.op1 rfl (runs_move rfl) ?_; refine RW.op1 rfl (runs_assign rfl) ?_; refine RW.done ?_; refine AQ.next ?_; refine CW.ret ?_; refine AQ.ret1 rfl rfl ?_; obtain ⟨J9, hJ9, hst9, hr9⟩ := hg.freeze hst; exact ⟨J9, vo, hle.trans hJ9, rfl, ⟨hr9, fun p hp => (hv.2 p (dropT_mem.1 hp).1).mono hJ9⟩, hst9⟩
end Go.Proofs.YtlmmpcdjkpibcaaGreatX
namespace Go.Proofs.YtlmmpcdjkpibcaaGreatX
set_option linter.unusedVariables false
set_option linter.unusedSimpArgs false
open Go Go.RowKit
variable {w0 w : World} {I : Imm} {L : Own} {P : Program} {l : Env} {ty : TypeId}
theorem extract_list {s : ByteArray} {i j : Nat} : (s.extract i j).toList = (s.toList.drop i).take (j - i) := by
  rw [ByteArray.toList_eq, ByteArray.toList_eq, ByteArray.data_extract, Array.toList_extract]
def goL (l : List UInt8) : Bool := decide (0 < l.length) && decide ((l.getD 0 0).toNat ≤ 32)
def goR (l : List UInt8) : Bool := decide (0 < l.length) && decide ((l.getD (l.length - 1) 0).toNat ≤ 32)
theorem trimL_go {l : List UInt8} (h : goL l = true) : trimL (l.drop 1) = trimL l := by
  unfold goL at h
  match l, h with
  | [], h => simp at h
  | c :: r, h =>
    have hc : c.toNat ≤ 32 := by simpa using h
    show _ = trimL (c :: r)
    unfold trimL; rw [List.dropWhile_cons, if_pos (by simpa using hc)]
    rfl
theorem trimL_stop {l : List UInt8} (h : goL l = false) : trimL l = l := by
  unfold goL at h
  match l, h with
  | [], _ => rfl
  | c :: r, h =>
    have hc : ¬ c.toNat ≤ 32 := by simpa using h
    unfold trimL; rw [List.dropWhile_cons, if_neg (by simpa using hc)]
theorem trimR_go {l : List UInt8} (h : goR l = true) : trimR (l.take (l.length - 1)).length (l.take (l.length - 1)) = trimR l.length l := by
  unfold goR at h
  simp only [Bool.and_eq_true, decide_eq_true_eq] at h
  have e : (l.take (l.length - 1)).length = l.length - 1 := by rw [List.length_take]; omega
  rw [e]; obtain ⟨n, hn⟩ : ∃ n, l.length = n + 1 := ⟨l.length - 1, by omega⟩; rw [hn]
  show _ = if _ then _ else _
  rw [if_pos h, hn, Nat.add_sub_cancel]
theorem trimR_stop {n : Nat} {l : List UInt8} (h : goR l = false) : trimR n l = l := by
  unfold goR at h
  match n with
  | 0 => rfl
  | n + 1 =>
    show (if _ then _ else _) = _
    rw [if_neg]; intro h2; rw [decide_eq_true h2.1, decide_eq_true h2.2] at h
    cases h
theorem trimR_le : ∀ (n : Nat) (l : List UInt8), l.length ≤ n → trimR n l = trimR l.length l
  | 0, l, h => by
    have : l.length = 0 := by omega
    rw [this]
  | n + 1, l, h => by
    cases hg : goR l with
    | false => rw [trimR_stop hg, trimR_stop hg]
    | true =>
      rw [← trimR_go hg]; have h2 := hg; unfold goR at h2
      simp only [Bool.and_eq_true, decide_eq_true_eq] at h2
      show (if _ then _ else _) = _
      rw [if_pos h2, trimR_le n _ (by rw [List.length_take]; omega)]
theorem trimB_of {t s : List UInt8} (h : goL t = false) (h2 : trimL t = trimL s) (hl : t.length ≤ s.length) : trimR t.length t = trimB s := by
  rw [trimL_stop h] at h2; unfold trimB; rw [← h2, trimR_le s.length t hl]
theorem safe_fin : ∀ r : Nat, r < 127 → safeR r = (decide (33 ≤ r) && (decide (r ≠ 34) && (decide (r ≠ 96) && (decide (r ≠ 35) && (decide (r ≠ 60) && (decide (r ≠ 62) && (decide (r ≠ 63) && (decide (r ≠ 123) && decide (r ≠ 125))))))))) := by decide +kernel
theorem bad_1 {r : Nat} (h : (r : Int) < 33 ∨ (r : Int) > 126 ∨ (r : Int) = 34 ∨ (r : Int) = 96 ∨ (r : Int) = 35 ∨ (r : Int) = 60 ∨ (r : Int) = 62 ∨ (r : Int) = 63 ∨ (r : Int) = 123) : true = !safeR r := by
  by_cases h1 : r < 127
  · rw [safe_fin r h1]
    rcases h with h | h | h | h | h | h | h | h | h
    · rw [decide_eq_false (show ¬ 33 ≤ r by omega)]; rfl
    · omega
    all_goals
      obtain rfl : r = _ := Int.ofNat_inj.1 h
      decide
  · rw [← safe_2 (by omega)]
    rfl
theorem bad_2 {r : Nat} (h0 : ¬ (r : Int) < 33) (h1 : ¬ (r : Int) > 126) (h2 : ¬ (r : Int) = 34) (h3 : ¬ (r : Int) = 96) (h4 : ¬ (r : Int) = 35) (h5 : ¬ (r : Int) = 60) (h6 : ¬ (r : Int) = 62) (h7 : ¬ (r : Int) = 63) (h8 : ¬ (r : Int) = 123) : decide ((r : Int) = 125) = !safeR r := by
  rw [safe_fin r (by omega), decide_eq_true (show 33 ≤ r by omega), decide_eq_true (show r ≠ 34 by omega), decide_eq_true (show r ≠ 96 by omega), decide_eq_true (show r ≠ 35 by omega), decide_eq_true (show r ≠ 60 by omega), decide_eq_true (show r ≠ 62 by omega), decide_eq_true (show r ≠ 63 by omega), decide_eq_true (show r ≠ 123 by omega)]
  simp only [Bool.true_and]
  by_cases h9 : r = 125
  · rw [decide_eq_true (show (r : Int) = 125 by omega), decide_eq_false (show ¬ r ≠ 125 by omega)]; rfl
  · rw [decide_eq_false (show ¬ (r : Int) = 125 by omega), decide_eq_true (show r ≠ 125 by omega)]; rfl
theorem safe_small {r : Nat} (h : safeR r = true) : r ≤ 126 := by
  unfold safeR at h
  simp at h
  omega
theorem hex_cut : ∀ n : Nat, n < 16 → hexS.extract n (n + 1) = strOf [hexD n] := by decide +kernel
theorem runs_hexSl {t : TypeId} {x y y' : Operand} {k k' : IntKind} {n : Nat} {lo hi : Int} (ht : P.underlying t = some .string) (hx : ev l x = some (.string hexS)) (hy : ev l y = some (.int k lo)) (hy' : ev l y' = some (.int k' hi)) (hlo : lo = (n : Int)) (hhi : hi = (n : Int) + 1) (hn : n < 16) :
    Runs P (.slice t x (some y) (some y') none) ty l w (.value (.string (strOf [hexD n]))) w := by
  subst hlo hhi; have h := runs_sliceS_lh (w := w) (ty := ty) ht hx hy hy' (by show 0 ≤ (n : Int) ∧ (n : Int) ≤ n + 1 ∧ (n : Int) + 1 ≤ ((16 : Nat) : Int); omega); rw [Int.toNat_natCast, show ((n : Int) + 1).toNat = n + 1 by omega, hex_cut n hn] at h; exact h
theorem strOf_app (a b : List UInt8) : strOf a ++ strOf b = strOf (a ++ b) := by
  apply ByteArray.ext
  simp [strOf]
theorem strOf_of (s : ByteArray) : strOf s.toList = s := by rw [ByteArray.toList_eq]; rfl
theorem enc_str (r : Int) : Utf8.encode r = strOf (encL r) := (strOf_of _).symm
end Go.Proofs.YtlmmpcdjkpibcaaGreatX
namespace Go.Proofs.YtlmmpcdjkpibcaaGreatX
set_option linter.unusedVariables false
set_option linter.unusedSimpArgs false
open Go Go.RowKit
theorem strOfE (s : ByteArray) : strOf s.toList = s := by rw [ByteArray.toList_eq]; rfl
theorem extractE (s : ByteArray) (i j : Nat) : s.extract i j = strOf ((s.toList.drop i).take (j - i)) := by rw [← extract_list, strOfE]
theorem strOfZ (l : List UInt8) : (strOf l).size = l.length := by rw [← size_toList, strOf_toList]
theorem emptyL : (ByteArray.mk #[]).toList = [] := by rw [ByteArray.toList_eq]
theorem takeE_more {α : Type} {p : α → Prop} {xs : List α} {k : Nat} (h : ∀ x ∈ xs.take k, p x) (hk : k < xs.length) (hp : p xs[k]) : ∀ x ∈ xs.take (k + 1), p x := by
  intro x hx; rw [List.take_add_one, List.getElem?_eq_getElem hk] at hx
  rcases List.mem_append.1 hx with hx | hx
  · exact h x hx
  · simp at hx
    subst hx; exact hp
theorem get_getD {l : List UInt8} {k : Nat} (h : k < l.length) : l.getD k 0 = l[k] := by
  rw [List.getD_eq_getElem?_getD, List.getElem?_eq_getElem h]
  rfl
theorem strOf_append (a b : List UInt8) : strOf a ++ strOf b = strOf (a ++ b) := by
  apply ByteArray.ext
  rw [ByteArray.data_append]
  simp [strOf]
def stopK (st l : List UInt8) : Nat := l.findIdx (fun c => st.contains c)
def untilL (st l : List UInt8) : List UInt8 × List UInt8 := (l.take (stopK st l), l.drop (stopK st l))
theorem untilL_no {st l : List UInt8} (h : ∀ x ∈ l, st.contains x = false) : untilL st l = (l, []) := by
  have hk : stopK st l = l.length := by
    unfold stopK; rw [List.findIdx_eq_length]; intro x hx; rw [h x hx]
  unfold untilL; rw [hk, List.take_length, List.drop_length]
theorem stopK_at {st a b : List UInt8} {c : UInt8} (h : ∀ x ∈ a, st.contains x = false) (hc : st.contains c = true) : stopK st (a ++ c :: b) = a.length := by
  unfold stopK
  induction a with
  | nil =>
    rw [List.nil_append, List.findIdx_cons, hc]
    rfl
  | cons x r ih =>
    rw [List.cons_append, List.findIdx_cons, h x (by simp), cond_false, ih (fun y hy => h y (List.mem_cons_of_mem _ hy))]
    rfl
theorem untilL_at {st a b : List UInt8} {c : UInt8} (h : ∀ x ∈ a, st.contains x = false) (hc : st.contains c = true) : untilL st (a ++ c :: b) = (a, c :: b) := by
  unfold untilL; rw [stopK_at h hc, List.take_left, List.drop_left]
theorem untilL_len (st l : List UInt8) : (untilL st l).1.length ≤ l.length ∧ (untilL st l).2.length ≤ l.length := by
  unfold untilL; exact ⟨by rw [List.length_take]; omega, by rw [List.length_drop]; omega⟩
theorem untilL_get {st l : List UInt8} {k : Nat} (hk : k < l.length) (h : ∀ x ∈ l.take k, st.contains x = false) (hc : st.contains l[k] = true) : untilL st l = (l.take k, l.drop k) := by
  have e : l = l.take k ++ l[k] :: l.drop (k + 1) := by rw [← List.drop_eq_getElem_cons hk, List.take_append_drop]
  have h2 := untilL_at (b := l.drop (k + 1)) h hc; rw [← e] at h2; rw [h2, ← List.drop_eq_getElem_cons hk]
end Go.Proofs.YtlmmpcdjkpibcaaGreatX
