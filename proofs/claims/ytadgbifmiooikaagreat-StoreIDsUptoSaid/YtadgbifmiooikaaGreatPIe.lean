/- Parts of a proof, joined: walks through the program's functions and their laws, in the order in which they need each other. -/
import Derived.Test.YtadgbifmiooikaaGreatPIb
import Derived.Test.YtadgbifmiooikaaGreatPId
namespace Go.Proofs.YtadgbifmiooikaaGreatX
set_option linter.unusedVariables false
set_option linter.unusedSimpArgs false
open Go Go.RowKit Go.Proofs
theorem perm3 {α : Type} {a b c : α} {X L : List α} : (X ++ a :: b :: c :: L).Perm (a :: b :: c :: (X ++ L)) := List.perm_middle.trans (List.Perm.cons _ (List.perm_middle.trans (List.Perm.cons _ List.perm_middle)))
theorem runs_appendRA {P : Program} {l : Env} {ty : TypeId} (A : Own) {w0 w : World} {I : Imm} {L : Own} {t e : TypeId} {z : Value} {size bytes : Nat} (ht : P.underlying t = some (.slice e)) (he : TI P e z size bytes) (hz : z.cells.size = size) (h0 : 0 < size) {x y : Operand} {v u : Value} {n m : Nat} {xs news : List Value} {Lv : Own} (hx : ev l x = some v) (hy : ev l y = some u)
    (hst : St w0 w I (A ++ (Lv ++ L))) (hg : Grow e size v n xs Lv) (hr : RdL I size u m news) (hb : (n + m) * bytes ≤ 140737488355328) (hmax : n + m ≤ maxLen) :
    ∃ v' w', Runs P (.call ⟨.builtin .append, #[x, y], #[t, t]⟩) ty l w (.value v') w' ∧ ∃ Lv', St w0 w' I (A ++ (Lv' ++ L)) ∧ Grow e size v' (n + m) (xs ++ news) Lv' := by
  have hp : ∀ X : Own, (A ++ (X ++ L)).Perm (X ++ (A ++ L)) := fun X => by
    rw [← List.append_assoc, ← List.append_assoc]; exact List.perm_append_comm.append_right L
  obtain ⟨v', w', h1, Lv', h2, h3⟩ := runs_appendR (ty := ty) ht he hz h0 hx hy (hst.perm (hp Lv)) hg hr hb hmax; exact ⟨v', w', h1, Lv', h2.perm (hp Lv').symm, h3⟩
set_option maxRecDepth 100000 in
set_option maxHeartbeats 1000000 in
theorem bequal_spec {w0 w : World} {I : Imm} {L : Own} (hst : St w0 w I L) {va vb : Value} {a b : List UInt8} (ha : RdB I va a) (hb : RdB I vb b) :
    Calls Tryz.prog 113 #[va, vb] w fun e w' => e = .returned (.bool (a == b)) ∧ St w0 w' I L := by
  refine enter Tryz.func113 rfl (N := 10) rfl rfl ?_
  simp only [List.zipIdx_cons, List.zipIdx_nil, List.map_cons, List.map_nil, Nat.zero_add, Nat.reduceAdd]
  have hle := Imm.le.refl I; refine CW.seq ?_; refine CW.region ?_; refine RW.op1 rfl (runs_assign rfl) ?_; refine RW.done ?_; refine AQ.next ?_; refine CW.seq ?_; refine CW.region ?_; refine RW.op1 rfl (runs_move rfl) ?_; refine RW.op1 rfl (RdB.string Tryz.underlying52 Tryz.underlying5 Tryz.underlying9 rfl ha hst) ?_; refine RW.op1 rfl (runs_move rfl) ?_; refine RW.op1 rfl (RdB.string Tryz.underlying52 Tryz.underlying5 Tryz.underlying9 rfl hb hst) ?_; refine RW.op1 rfl (runs_eqS rfl rfl) ?_; refine RW.op1 rfl (runs_assign rfl) ?_; refine RW.done ?_; refine AQ.next ?_; refine CW.ret ?_; refine AQ.ret1 rfl rfl ?_; refine ⟨?_, hst⟩; rw [strOf_toList, strOf_toList]
set_option maxRecDepth 100000 in
set_option maxHeartbeats 4000000 in
theorem itenc_spec {w0 w : World} {I : Imm} {L : Own} (hst : St w0 w I L) {it : It} {vh : Value} (hv : RdH I vh it.heads) (hok : ItOk it) :
    Calls Tryz.prog 49 #[itv it vh] w fun e w' => ∃ I' v', I.le I' ∧ e = .returned (.tuple #[v', .int .i64 (if encOk (itAV it) then 0 else 1)]) ∧ St w0 w' I' L ∧ RdB I' v' (if encOk (itAV it) then encA (itAV it) else []) := by
  obtain ⟨m, hgood⟩ := itAV_good hok; have hlen := hok.len
  obtain ⟨A, c, rfl⟩ : ∃ A c, vh = .slice A it.heads.length c := by obtain ⟨_, _, A, c, e, _⟩ := hv; exact ⟨A, c, e⟩
  refine enter Tryz.func49 rfl (N := 114) rfl rfl ?_
  simp only [List.zipIdx_cons, List.zipIdx_nil, List.map_cons, List.map_nil, Nat.zero_add, Nat.reduceAdd]
  have hle := Imm.le.refl I; refine CW.seq ?_; refine CW.region ?_; refine RW.opE rfl (runs_box rfl hst) ?_; rintro _ w ⟨b1, rfl, hstn⟩; clear hst; have hst := hstn; clear hstn; refine RW.op1 rfl (runs_assign rfl) ?_; refine RW.op1 rfl (runs_assign rfl) ?_; refine RW.done ?_; refine AQ.next ?_; refine CW.seq ?_; refine CW.cut (Nat × Nat) (fun y w => St w0 w I ((y.2, Obj.cells #[.string it.page, .string it.csp, .int .i64 it.refer] 38) :: (y.1, Obj.cells #[.string it.method, .string it.url, .slice A it.heads.length c, .string it.body, .int .i64 it.mode, .int .i64 it.creds] 36) :: (b1, Obj.cells #[.int .i64 it.id, .int .i64 it.kind, .int .i64 it.group, .string it.name, .string it.method, .string it.url, .slice A it.heads.length c, .string it.body, .int .i64 it.mode, .int .i64 it.creds, .string it.page, .string it.csp, .int .i64 it.refer, .string it.nurl, .string it.nmethod, .string it.nbody, .int .i64 it.hops, .int .i64 it.tries, .int .i64 it.til, .bool it.tainted, .string it.got, .string it.tag, .int .i64 it.state, .int .i64 it.code, .bool it.acked] 40) :: L)) (fun y => [(1, .pointer (some ⟨b1, 0, none⟩)), (4, .pointer (some ⟨y.1, 0, none⟩)), (5, .pointer (some ⟨y.2, 0, none⟩))]) ?_ ?_
  ·
    refine CW.drawSt hst (.q 0 (.q 1 (.q 2 (.q 3 (.fork (.l 4 (.l 5 (.l 6 (.l 7 .nil)))) (.l 5 (.l 4 (.l 6 (.l 7 .nil))))))))) follows (by kernel_rfl) (fun w hst => ?_)
    refine DRW.q rfl rfl (fun w' hF => runs_fieldAddr0 rfl Tryz.underlying40 rfl ti36 (by decide)) ?_
    refine DRW.q rfl rfl (FSt.loadN (vs := [_, _, _, _, _, _]) ag36 ti36 rfl (k := 0) rfl rfl rfl) ?_
    refine DRW.q rfl rfl (fun w' hF => runs_fieldAddr0 rfl Tryz.underlying40 rfl ti38 (by decide)) ?_
    refine DRW.q rfl rfl (FSt.loadN (vs := [_, _, _]) ag38 ti38 rfl (k := 0) rfl rfl rfl) ?_
    refine DRW.fork ?_ ?_
    · refine DRW.opE rfl rfl (runs_alloc ti36 hst) ?_; rintro _ w ⟨b2, rfl, hstn⟩; clear hst; have hst := hstn; clear hstn; refine ⟨FSt.ofA hst (Imm.le.refl _), ?_⟩; refine DRW.opE rfl rfl (runs_alloc ti38 hst) ?_; rintro _ w ⟨b3, rfl, hstn⟩; clear hst; have hst := hstn; clear hstn; refine ⟨FSt.ofA hst (Imm.le.refl _), ?_⟩
      refine DRW.opE0 rfl (runs_storeW ti36 rfl rfl hst (k := 1) rfl rfl rfl (NoFz.zero _) rfl) ?_
      rintro w hstn; clear hst; have hst := hstn; clear hstn; try simp only [List.set_cons_zero, List.set_cons_succ] at hst
      refine ⟨FSt.ofA hst (Imm.le.refl _), ?_⟩
      refine DRW.opE0 rfl (runs_storeW ti38 rfl rfl hst (k := 0) rfl rfl rfl (NoFz.zero _) rfl) ?_
      rintro w hstn; clear hst; have hst := hstn; clear hstn; try simp only [List.set_cons_zero, List.set_cons_succ] at hst
      refine ⟨FSt.ofA hst (Imm.le.refl _), ?_⟩; refine DRW.done ?_
      exact AQ.meet (_, _) hst ⟨rfl, rfl, rfl, trivial⟩
    refine DRW.opE rfl rfl (runs_alloc ti38 hst) ?_; rintro _ w ⟨b6, rfl, hstn⟩; clear hst; have hst := hstn; clear hstn; refine ⟨FSt.ofA hst (Imm.le.refl _), ?_⟩; refine DRW.opE rfl rfl (runs_alloc ti36 hst) ?_; rintro _ w ⟨b7, rfl, hstn⟩; clear hst; have hst := hstn; clear hstn; refine ⟨FSt.ofA hst (Imm.le.refl _), ?_⟩
    refine DRW.opE0 rfl (runs_storeW ti36 rfl rfl hst (k := 0) rfl rfl rfl (NoFz.zero _) rfl) ?_
    rintro w hstn; clear hst; have hst := hstn; clear hstn; try simp only [List.set_cons_zero, List.set_cons_succ] at hst
    refine ⟨FSt.ofA hst (Imm.le.refl _), ?_⟩
    refine DRW.opE0 rfl (runs_storeW ti38 rfl rfl hst (k := 1) rfl rfl rfl (NoFz.zero _) rfl) ?_
    rintro w hstn; clear hst; have hst := hstn; clear hstn; try simp only [List.set_cons_zero, List.set_cons_succ] at hst
    refine ⟨FSt.ofA hst (Imm.le.refl _), ?_⟩; refine DRW.done ?_
    exact AQ.meet (_, _) (hst.perm (List.Perm.swap _ _ _)) ⟨rfl, rfl, rfl, trivial⟩
  · clear hst; rintro ⟨bq, bp⟩ w hst; dsimp only at hst ⊢; refine AQ.next ?_; refine CW.seq ?_; refine CW.region ?_
    refine RW.op1 rfl (runs_fieldAddr0 rfl Tryz.underlying40 rfl ti3 (by decide)) ?_
    refine RW.op1 rfl (runs_load1 sc3 rfl (hst.cell_own (k := 2) rfl rfl)) ?_
    refine RW.op1 rfl (runs_makeIface con3 rfl) ?_
    refine RW.op1 rfl (runs_fieldAddr0 rfl Tryz.underlying40 rfl ti3 (by decide)) ?_
    refine RW.op1 rfl (runs_load1 sc3 rfl (hst.cell_own (k := 2) rfl rfl)) ?_
    refine RW.op1 rfl (runs_makeIface con3 rfl) ?_
    refine RW.op1 rfl (runs_fieldAddr0 rfl Tryz.underlying40 rfl ti3 (by decide)) ?_
    refine RW.op1 rfl (runs_load1 sc3 rfl (hst.cell_own (k := 2) rfl rfl)) ?_
    refine RW.op1 rfl (runs_makeIface con3 rfl) ?_
    refine RW.op1 rfl (runs_fieldAddr0 rfl Tryz.underlying40 rfl ti9 (by decide)) ?_
    refine RW.op1 rfl (runs_load1 sc9 rfl (hst.cell_own (k := 2) rfl rfl)) ?_
    refine RW.op1 rfl (runs_makeIface con9 rfl) ?_
    refine RW.op1 rfl (runs_fieldAddr0 rfl Tryz.underlying36 rfl ti9 (by decide)) ?_
    refine RW.op1 rfl (runs_load1 sc9 rfl (hst.cell_own (k := 1) rfl rfl)) ?_
    refine RW.op1 rfl (runs_makeIface con9 rfl) ?_
    refine RW.op1 rfl (runs_fieldAddr0 rfl Tryz.underlying36 rfl ti9 (by decide)) ?_
    refine RW.op1 rfl (runs_load1 sc9 rfl (hst.cell_own (k := 1) rfl rfl)) ?_
    refine RW.op1 rfl (runs_makeIface con9 rfl) ?_
    refine RW.op1 rfl (runs_fieldAddr0 rfl Tryz.underlying36 rfl ti34 (by decide)) ?_
    refine RW.op1 rfl (runs_load1 sc34 rfl (hst.cell_own (k := 1) rfl rfl)) ?_
    refine RW.op1 rfl (runs_lenL Tryz.underlying34 rfl) ?_; refine RW.op1 rfl (runs_makeIface con3 rfl) ?_; refine RW.opE rfl (runs_lit1 (xs := (headAV it).map AV.v) Tryz.underlying95 ti20 (by decide) rfl rfl rfl (by simp [headAV, AV.v, Value.oneCell']) hst) ?_; rintro u10 w ⟨Lv10, hstn, hg10⟩; clear hst; have hst := hstn; clear hstn; replace hst := hst.perm perm3; have hg35 := hg10; refine RW.op1 rfl (runs_assign rfl) ?_; refine RW.done ?_; refine AQ.next ?_; refine CW.seq ?_; refine CW.seq ?_; refine CW.region ?_
    refine RW.op1 rfl (runs_fieldAddr0 rfl Tryz.underlying36 rfl ti34 (by decide)) ?_
    refine RW.op1 rfl (runs_load1 sc34 rfl (hst.cell_own (k := 1) rfl rfl)) ?_
    refine RW.op1 rfl (runs_lenL Tryz.underlying34 rfl) ?_; refine RW.op1 rfl (runs_move rfl) ?_; refine RW.done ?_; refine AQ.next ?_; refine CW.block ?_; refine CW.loop (Nat × Imm × Value × Own) (fun x w => I.le x.2.1 ∧ RdH x.2.1 (.slice A it.heads.length c) it.heads ∧ St w0 w x.2.1 ((bp, Obj.cells #[.string it.page, .string it.csp, .int .i64 it.refer] 38) :: (bq, Obj.cells #[.string it.method, .string it.url, .slice A it.heads.length c, .string it.body, .int .i64 it.mode, .int .i64 it.creds] 36) :: (b1, Obj.cells #[.int .i64 it.id, .int .i64 it.kind, .int .i64 it.group, .string it.name, .string it.method, .string it.url, .slice A it.heads.length c, .string it.body, .int .i64 it.mode, .int .i64 it.creds, .string it.page, .string it.csp, .int .i64 it.refer, .string it.nurl, .string it.nmethod, .string it.nbody, .int .i64 it.hops, .int .i64 it.tries, .int .i64 it.til, .bool it.tainted, .string it.got, .string it.tag, .int .i64 it.state, .int .i64 it.code, .bool it.acked] 40) :: (x.2.2.2 ++ L)) ∧ GrowA x.2.2.1 (headAV it ++ hAV (it.heads.take x.1)) x.2.2.2 ∧ x.1 ≤ it.heads.length) (fun x => [(1, .pointer (some ⟨b1, 0, none⟩)), (4, .pointer (some ⟨bq, 0, none⟩)), (5, .pointer (some ⟨bp, 0, none⟩)), (6, x.2.2.1), (37, .slice A it.heads.length c), (38, .int .i64 (it.heads.length : Nat)), (39, .int .i64 (x.1 : Int))]) (fun x => it.heads.length - x.1) ⟨(0, _, _, _), ⟨hle, hv, hst, hg35, Nat.zero_le _⟩, ⟨rfl, rfl, rfl, rfl, rfl, rfl, rfl, trivial⟩⟩ ?_; clear hle hv hst
    rintro ⟨k, J, vo, Lo⟩ w ⟨hle, hv, hst, hg, hk⟩; dsimp only at hle hv hst hg hk ⊢; refine CW.seq ?_; refine CW.region ?_; refine RW.op1 rfl (runs_lss rfl rfl) ?_; refine RW.done ?_; refine AQ.next ?_; refine CW.seq ?_; refine CW.cond rfl (fun hc40 => ?_) (fun hc40 => ?_)
    · have hcb40 := hc40; try simp only [decide_eq_true_eq, decide_eq_false_iff_not] at hc40
      have hk1 : k < it.heads.length := by omega
      obtain ⟨⟨n, d⟩, hr⟩ : ∃ r, it.heads[k] = r := ⟨_, rfl⟩
      have hr2 : it.heads[k]? = some (n, d) := by rw [List.getElem?_eq_getElem hk1, hr]
      have htk : hAV (it.heads.take (k + 1)) = hAV (it.heads.take k) ++ [.txt n, .txt d] := by
        unfold hAV; rw [List.take_add_one, hr2, List.flatMap_append]
        rfl
      have hgl : (headAV it ++ hAV (it.heads.take k)).length = 7 + k * 2 := by rw [List.length_append, hAV_len, List.length_take, Nat.min_eq_left (by omega)]; rfl
      refine CW.skip ?_; refine AQ.next ?_; refine CW.seq ?_; refine CW.block ?_; refine CW.seq ?_; refine CW.region ?_; refine RW.op1 rfl (RdL.indexAddr Tryz.underlying34 ti54 (by decide) rfl rfl hv (by omega)) ?_; refine RW.op1 rfl (RdL.loadRow (row := hrow (n, d)) ag54 ti54 rfl hv hst rfl (hrow_at hr2)) ?_; refine RW.opE rfl (runs_alloc ti54 hst) ?_; rintro _ w ⟨b11, rfl, hstn⟩; clear hst; have hst := hstn; clear hstn
      refine RW.opE0 (runs_storeW ti54 rfl rfl hst (k := 0) rfl rfl rfl (NoFz.zero _) rfl) ?_
      rintro w hstn; clear hst; have hst := hstn; clear hstn; try simp only [List.set_cons_zero, List.set_cons_succ] at hst
      refine RW.done ?_; refine AQ.next ?_; refine CW.region ?_; refine RW.op1 rfl (runs_move rfl) ?_
      refine RW.op1 rfl (runs_fieldAddr0 rfl Tryz.underlying54 rfl ti9 (by decide)) ?_
      refine RW.op1 rfl (runs_load1 sc9 rfl (hst.cell_own (k := 0) rfl rfl)) ?_
      refine RW.op1 rfl (runs_makeIface con9 rfl) ?_
      refine RW.op1 rfl (runs_fieldAddr0 rfl Tryz.underlying54 rfl ti9 (by decide)) ?_
      refine RW.op1 rfl (runs_load1 sc9 rfl (hst.cell_own (k := 0) rfl rfl)) ?_
      refine RW.op1 rfl (runs_makeIface con9 rfl) ?_; refine RW.opE rfl (runs_lit1 (xs := [AV.txt n, AV.txt d].map AV.v) Tryz.underlying95 ti20 (by decide) rfl rfl rfl (by simp [AV.v, Value.oneCell']) hst) ?_; rintro u13 w ⟨Lv13, hstn, hg13⟩; clear hst; have hst := hstn; clear hstn; obtain ⟨J13, hJ13, hstn, h13⟩ := Grow.freeze hg13 hst; clear hst; have hst := hstn; clear hstn; replace hv := hv.mono hJ13; replace hle := hle.trans hJ13; try simp only [List.nil_append] at h13
      replace h13 : RdL J13 1 u13 2 ([AV.txt n, AV.txt d].map AV.v) := h13; have hT := h13; refine RW.opE rfl (runs_appendRA [_, _, _, _] Tryz.underlying95 ti20 rfl (by decide) rfl rfl hst hg hT (by omega) (by unfold maxLen; omega)) ?_; rintro uN w ⟨LvN, hstn, hgN⟩; clear hst; have hst := hstn; clear hstn; refine RW.op1 rfl (runs_assign rfl) ?_; refine RW.done ?_; refine AQ.block_normal ?_; refine AQ.next ?_; refine CW.region ?_; refine RW.op1 rfl (runs_add rfl rfl (by omega)) ?_; refine RW.op1 rfl (runs_move rfl) ?_; refine RW.done ?_
      exact AQ.again (x := (k, J, vo, Lo)) (k + 1, _, uN, LvN) ⟨hle, hv, hst.drop1, by
        dsimp only; unfold GrowA; rw [htk, ← List.append_assoc, List.length_append, List.map_append]
        exact hgN, by dsimp only; omega⟩ ⟨rfl, rfl, rfl, rfl, rfl, rfl, rfl, trivial⟩ (by dsimp only; omega)
    · have hcb40 := hc40; try simp only [decide_eq_true_eq, decide_eq_false_iff_not] at hc40
      skip
      refine CW.exit ?_; refine AQ.past_exit ?_; refine AQ.past_exit ?_; refine AQ.block_hit ?_; refine AQ.next ?_; refine CW.seq ?_; refine CW.region ?_; have hke : it.heads.take k = it.heads := List.take_of_length_le (by omega); rw [hke] at hg
      have hgl : (headAV it ++ hAV it.heads).length = 7 + it.heads.length * 2 := by rw [List.length_append, hAV_len]; rfl
      refine RW.op1 rfl (runs_move rfl) ?_
      refine RW.op1 rfl (runs_fieldAddr0 rfl Tryz.underlying36 rfl ti9 (by decide)) ?_
      refine RW.op1 rfl (runs_load1 sc9 rfl (hst.cell_own (k := 1) rfl rfl)) ?_
      refine RW.op1 rfl (runs_makeIface con9 rfl) ?_
      refine RW.op1 rfl (runs_fieldAddr0 rfl Tryz.underlying36 rfl ti3 (by decide)) ?_
      refine RW.op1 rfl (runs_load1 sc3 rfl (hst.cell_own (k := 1) rfl rfl)) ?_
      refine RW.op1 rfl (runs_makeIface con3 rfl) ?_
      refine RW.op1 rfl (runs_fieldAddr0 rfl Tryz.underlying36 rfl ti3 (by decide)) ?_
      refine RW.op1 rfl (runs_load1 sc3 rfl (hst.cell_own (k := 1) rfl rfl)) ?_
      refine RW.op1 rfl (runs_makeIface con3 rfl) ?_
      refine RW.op1 rfl (runs_fieldAddr0 rfl Tryz.underlying38 rfl ti9 (by decide)) ?_
      refine RW.op1 rfl (runs_load1 sc9 rfl (hst.cell_own (k := 0) rfl rfl)) ?_
      refine RW.op1 rfl (runs_makeIface con9 rfl) ?_
      refine RW.op1 rfl (runs_fieldAddr0 rfl Tryz.underlying38 rfl ti9 (by decide)) ?_
      refine RW.op1 rfl (runs_load1 sc9 rfl (hst.cell_own (k := 0) rfl rfl)) ?_
      refine RW.op1 rfl (runs_makeIface con9 rfl) ?_
      refine RW.op1 rfl (runs_fieldAddr0 rfl Tryz.underlying38 rfl ti3 (by decide)) ?_
      refine RW.op1 rfl (runs_load1 sc3 rfl (hst.cell_own (k := 0) rfl rfl)) ?_
      refine RW.op1 rfl (runs_makeIface con3 rfl) ?_
      refine RW.op1 rfl (runs_fieldAddr0 rfl Tryz.underlying40 rfl ti9 (by decide)) ?_
      refine RW.op1 rfl (runs_load1 sc9 rfl (hst.cell_own (k := 2) rfl rfl)) ?_
      refine RW.op1 rfl (runs_makeIface con9 rfl) ?_
      refine RW.op1 rfl (runs_fieldAddr0 rfl Tryz.underlying40 rfl ti9 (by decide)) ?_
      refine RW.op1 rfl (runs_load1 sc9 rfl (hst.cell_own (k := 2) rfl rfl)) ?_
      refine RW.op1 rfl (runs_makeIface con9 rfl) ?_
      refine RW.op1 rfl (runs_fieldAddr0 rfl Tryz.underlying40 rfl ti9 (by decide)) ?_
      refine RW.op1 rfl (runs_load1 sc9 rfl (hst.cell_own (k := 2) rfl rfl)) ?_
      refine RW.op1 rfl (runs_makeIface con9 rfl) ?_
      refine RW.op1 rfl (runs_fieldAddr0 rfl Tryz.underlying40 rfl ti3 (by decide)) ?_
      refine RW.op1 rfl (runs_load1 sc3 rfl (hst.cell_own (k := 2) rfl rfl)) ?_
      refine RW.op1 rfl (runs_makeIface con3 rfl) ?_
      refine RW.op1 rfl (runs_fieldAddr0 rfl Tryz.underlying40 rfl ti3 (by decide)) ?_
      refine RW.op1 rfl (runs_load1 sc3 rfl (hst.cell_own (k := 2) rfl rfl)) ?_
      refine RW.op1 rfl (runs_makeIface con3 rfl) ?_
      refine RW.op1 rfl (runs_fieldAddr0 rfl Tryz.underlying40 rfl ti3 (by decide)) ?_
      refine RW.op1 rfl (runs_load1 sc3 rfl (hst.cell_own (k := 2) rfl rfl)) ?_
      refine RW.op1 rfl (runs_makeIface con3 rfl) ?_
      refine RW.op1 rfl (runs_fieldAddr0 rfl Tryz.underlying40 rfl ti4 (by decide)) ?_
      refine RW.op1 rfl (runs_load1 sc4 rfl (hst.cell_own (k := 2) rfl rfl)) ?_
      refine RW.op1 rfl (runs_makeIface con4 rfl) ?_
      refine RW.op1 rfl (runs_fieldAddr0 rfl Tryz.underlying40 rfl ti9 (by decide)) ?_
      refine RW.op1 rfl (runs_load1 sc9 rfl (hst.cell_own (k := 2) rfl rfl)) ?_
      refine RW.op1 rfl (runs_makeIface con9 rfl) ?_
      refine RW.op1 rfl (runs_fieldAddr0 rfl Tryz.underlying40 rfl ti9 (by decide)) ?_
      refine RW.op1 rfl (runs_load1 sc9 rfl (hst.cell_own (k := 2) rfl rfl)) ?_
      refine RW.op1 rfl (runs_makeIface con9 rfl) ?_
      refine RW.op1 rfl (runs_fieldAddr0 rfl Tryz.underlying40 rfl ti3 (by decide)) ?_
      refine RW.op1 rfl (runs_load1 sc3 rfl (hst.cell_own (k := 2) rfl rfl)) ?_
      refine RW.op1 rfl (runs_makeIface con3 rfl) ?_
      refine RW.op1 rfl (runs_fieldAddr0 rfl Tryz.underlying40 rfl ti3 (by decide)) ?_
      refine RW.op1 rfl (runs_load1 sc3 rfl (hst.cell_own (k := 2) rfl rfl)) ?_
      refine RW.op1 rfl (runs_makeIface con3 rfl) ?_
      refine RW.op1 rfl (runs_fieldAddr0 rfl Tryz.underlying40 rfl ti4 (by decide)) ?_
      refine RW.op1 rfl (runs_load1 sc4 rfl (hst.cell_own (k := 2) rfl rfl)) ?_
      refine RW.op1 rfl (runs_makeIface con4 rfl) ?_; refine RW.opE rfl (runs_lit1 (xs := (tailAV it).map AV.v) Tryz.underlying95 ti20 (by decide) rfl rfl rfl (by simp [tailAV, AV.v, Value.oneCell']) hst) ?_; rintro u15 w ⟨Lv15, hstn, hg15⟩; clear hst; have hst := hstn; clear hstn; obtain ⟨J15, hJ15, hstn, h15⟩ := Grow.freeze hg15 hst; clear hst; have hst := hstn; clear hstn; replace hv := hv.mono hJ15; replace hle := hle.trans hJ15; try simp only [List.nil_append] at h15
      replace h15 : RdL J15 1 u15 18 ((tailAV it).map AV.v) := h15; have hT := h15; refine RW.opE rfl (runs_appendRA [_, _, _] Tryz.underlying95 ti20 rfl (by decide) rfl rfl hst hg hT (by omega) (by unfold maxLen; omega)) ?_; rintro uN w ⟨LvN, hstn, hgN⟩; clear hst; have hst := hstn; clear hstn; refine RW.op1 rfl (runs_assign rfl) ?_; refine RW.done ?_; refine AQ.next ?_; refine CW.seq ?_; refine CW.region ?_; replace hst : St _ _ _ (_ :: _ :: _ :: (LvN ++ L)) := hst; obtain ⟨J9, hJ9, hstn, hall⟩ := hgN.freeze (hst.perm perm3.symm); clear hst; have hst := hstn; clear hstn; replace hle := hle.trans hJ9; replace hv := hv.mono hJ9
      have hall2 : RdA J9 uN (itAV it) := by
        unfold RdA itAV; rw [List.length_append, List.map_append]; exact hall
      refine RW.op1 rfl (runs_move rfl) ?_; refine RW.call rfl call51 rfl rfl (enc_spec hst hall2 hgood (by rw [itAV_len]; omega)) ?_; rintro e w ⟨J111, v111, hJ111, rfl, hstn, hv111⟩; clear hst; have hst := hstn; clear hstn; replace hv := hv.mono hJ111; replace hle := hle.trans hJ111; refine ⟨_, rfl, ?_⟩; refine RW.op1 rfl (runs_extract rfl rfl) ?_; refine RW.op1 rfl (runs_extract rfl rfl) ?_; refine RW.op1 rfl (runs_assign rfl) ?_; refine RW.op1 rfl (runs_assign rfl) ?_; refine RW.done ?_; refine AQ.next ?_; refine CW.ret ?_; refine AQ.ret2 rfl rfl rfl ?_; exact ⟨_, v111, hle, rfl, hst.drop1.drop1.drop1, hv111⟩
set_option maxRecDepth 100000 in
set_option maxHeartbeats 1000000 in
theorem rd_number_spec {w0 w : World} {I : Imm} {L : Own} {bR : Nat} {v : Value} {s : Nat} {bad : Bool} (hst : St w0 w I ((bR, Obj.cells #[v, .int .i64 ((s : Nat) : Int), .bool bad] 186) :: L)) {av : List AV} {m : Nat} {o : Bool} (hv : RdA I v av) (hgood : ∀ a ∈ av, a.good m o) (hs : s ≤ 4000000000) :
    Calls Tryz.prog 145 #[.pointer (some ⟨bR, 0, none⟩)] w fun e w' => ∃ bad', e = .returned (.int .i64 (numOf (atA av (s : Int)))) ∧ bad' = (bad || !isNum (atA av (s : Int))) ∧ St w0 w' I ((bR, Obj.cells #[v, .int .i64 ((s + 1 : Nat) : Int), .bool bad'] 186) :: L) := by
  refine enter Tryz.func145 rfl (N := 37) rfl rfl ?_
  simp only [List.zipIdx_cons, List.zipIdx_nil, List.map_cons, List.map_nil, Nat.zero_add, Nat.reduceAdd]
  have hle := Imm.le.refl I; refine CW.seq ?_; refine CW.region ?_; refine RW.op1 rfl (runs_assign rfl) ?_; refine RW.done ?_; refine AQ.next ?_; refine CW.seq ?_; refine CW.drawSt hst (.q 0 (.q 1 (.q 2 (.q 3 (.q 4 (.q 5 (.q 6 (.q 7 (.l 8 (.q 9 (.q 10 (.q 11 (.q 12 (.q 13 .nil)))))))))))))) follows (by kernel_rfl) (fun w hst => ?_); refine DRW.q rfl rfl (fun w' hF => runs_move rfl) ?_; refine DRW.q rfl rfl (fun w' hF => runs_nilCheck rfl) ?_
  refine DRW.q rfl rfl (fun w' hF => runs_fieldAddr0 rfl Tryz.underlying186 rfl ti95 (by decide)) ?_
  refine DRW.q rfl rfl (FSt.load1_own sc95 rfl (k := 0) rfl rfl) ?_
  refine DRW.q rfl rfl (fun w' hF => runs_move rfl) ?_; refine DRW.q rfl rfl (fun w' hF => runs_nilCheck rfl) ?_
  refine DRW.q rfl rfl (fun w' hF => runs_fieldAddr0 rfl Tryz.underlying186 rfl ti3 (by decide)) ?_
  refine DRW.q rfl rfl (FSt.load1_own sc3 rfl (k := 0) rfl rfl) ?_
  refine DRW.call rfl rfl call73 rfl rfl (int_spec hst hv hgood (s : Int)) ?_; rintro e w ⟨rfl, hstn⟩; clear hst; have hst := hstn; clear hstn; have has := as_num (atA_good hgood (s : Int)); rw [has.1, has.2]; refine ⟨_, rfl, FSt.ofA hst (Imm.le.refl _), ?_⟩; refine DRW.q rfl rfl (fun w' hF => runs_move rfl) ?_; refine DRW.q rfl rfl (fun w' hF => runs_extract rfl rfl) ?_; refine DRW.q rfl rfl (fun w' hF => runs_extract rfl rfl) ?_; refine DRW.q rfl rfl (fun w' hF => runs_assign rfl) ?_; refine DRW.q rfl rfl (fun w' hF => runs_assign rfl) ?_; refine DRW.done ?_; refine AQ.next ?_; refine CW.seq ?_; refine CW.draw (fun _ => True) (.q 0 (.q 1 (.q 2 (.q 3 (.q 4 (.q 7 (.q 8 (.q 9 (.fork (.l 5 (.q 6 (.l 10 (.q 11 (.q 12 (.q 13 (.q 14 (.q 15 (.q 16 (.l 17 (.q 18 (.q 19 (.l 20 .nil))))))))))))) (.l 10 (.q 11 (.q 12 (.q 13 (.q 14 (.l 5 (.q 6 (.q 15 (.q 16 (.l 17 (.q 18 (.q 19 (.l 20 .nil)))))))))))))))))))))) follows (by kernel_rfl) trivial ?_; replace hst := hst.draw; refine DRW.q rfl rfl (fun w' hF => runs_move rfl) ?_; refine DRW.q rfl rfl (fun w' hF => runs_move rfl) ?_; refine DRW.q rfl rfl (fun w' hF => runs_move rfl) ?_; refine DRW.q rfl rfl (fun w' hF => runs_nilCheck rfl) ?_
  refine DRW.q rfl rfl (fun w' hF => runs_fieldAddr0 rfl Tryz.underlying186 rfl ti3 (by decide)) ?_
  refine DRW.q rfl rfl (fun w' hF => runs_move rfl) ?_; refine DRW.q rfl rfl (fun w' hF => runs_nilCheck rfl) ?_
  refine DRW.q rfl rfl (fun w' hF => runs_fieldAddr0 rfl Tryz.underlying186 rfl ti4 (by decide)) ?_
  refine DRW.fork ?_ ?_
  · refine DRW.op1 rfl rfl (runs_load1 sc3 rfl (hst.cell_own (k := 0) rfl rfl)) trivial ?_
    refine DRW.q rfl rfl (fun w' hF => runs_add rfl rfl (by omega)) ?_
    refine DRW.op1 rfl rfl (runs_load1 sc4 rfl (hst.cell_own (k := 0) rfl rfl)) trivial ?_
    refine DRW.q rfl rfl (fun w' hF => runs_move rfl) ?_; refine DRW.split (t := 28) rfl (fun hb28 => ?_) (fun hb28 => ?_)
    · have hb28p := hb28; try simp only [decide_eq_true_eq, decide_eq_false_iff_not] at hb28p
      refine DRW.q_off rfl rfl rfl rfl hb28 rfl ?_; refine DRW.q_off rfl rfl rfl rfl hb28 rfl ?_; refine DRW.q rfl rfl (fun w' hF => runs_pick_true rfl hb28 rfl) ?_; refine DRW.q rfl rfl (fun w' hF => runs_nilCheck rfl) ?_
      refine DRW.q rfl rfl (fun w' hF => runs_fieldAddr0 rfl Tryz.underlying186 rfl ti3 (by decide)) ?_
      refine DRW.opE0 rfl (runs_store1P ti3 rfl rfl hst (k := 0) rfl rfl (NoFz.zero _) rfl) ?_
      rintro w hstn; clear hst; have hst := hstn; clear hstn; try simp only [List.set_cons_zero, List.set_cons_succ] at hst
      refine ⟨trivial, ?_⟩; refine DRW.q rfl rfl (fun w' hF => runs_nilCheck rfl) ?_
      refine DRW.q rfl rfl (fun w' hF => runs_fieldAddr0 rfl Tryz.underlying186 rfl ti4 (by decide)) ?_
      refine DRW.opE0 rfl (runs_store1P ti4 rfl rfl hst (k := 0) rfl rfl (NoFz.zero _) rfl) ?_
      rintro w hstn; clear hst; have hst := hstn; clear hstn; try simp only [List.set_cons_zero, List.set_cons_succ] at hst
      refine ⟨trivial, ?_⟩; refine DRW.done ?_; refine AQ.next ?_; refine CW.seq ?_; refine CW.region ?_; refine RW.op1 rfl (runs_move rfl) ?_; refine RW.op1 rfl (runs_assign rfl) ?_; refine RW.done ?_; refine AQ.next ?_; refine CW.ret ?_; refine AQ.ret1 rfl rfl ?_; refine ⟨_, rfl, ?_, hst⟩; subst hb28
      rfl
    · have hb28p := hb28; try simp only [decide_eq_true_eq, decide_eq_false_iff_not] at hb28p
      refine DRW.q_on rfl rfl rfl rfl hb28 rfl (fun w' hF => runs_move rfl) ?_; refine DRW.q_on rfl rfl rfl rfl hb28 rfl (fun w' hF => runs_not rfl) ?_; refine DRW.q rfl rfl (fun w' hF => runs_pick_false rfl hb28 rfl) ?_; refine DRW.q rfl rfl (fun w' hF => runs_nilCheck rfl) ?_
      refine DRW.q rfl rfl (fun w' hF => runs_fieldAddr0 rfl Tryz.underlying186 rfl ti3 (by decide)) ?_
      refine DRW.opE0 rfl (runs_store1P ti3 rfl rfl hst (k := 0) rfl rfl (NoFz.zero _) rfl) ?_
      rintro w hstn; clear hst; have hst := hstn; clear hstn; try simp only [List.set_cons_zero, List.set_cons_succ] at hst
      refine ⟨trivial, ?_⟩; refine DRW.q rfl rfl (fun w' hF => runs_nilCheck rfl) ?_
      refine DRW.q rfl rfl (fun w' hF => runs_fieldAddr0 rfl Tryz.underlying186 rfl ti4 (by decide)) ?_
      refine DRW.opE0 rfl (runs_store1P ti4 rfl rfl hst (k := 0) rfl rfl (NoFz.zero _) rfl) ?_
      rintro w hstn; clear hst; have hst := hstn; clear hstn; try simp only [List.set_cons_zero, List.set_cons_succ] at hst
      refine ⟨trivial, ?_⟩; refine DRW.done ?_; refine AQ.next ?_; refine CW.seq ?_; refine CW.region ?_; refine RW.op1 rfl (runs_move rfl) ?_; refine RW.op1 rfl (runs_assign rfl) ?_; refine RW.done ?_; refine AQ.next ?_; refine CW.ret ?_; refine AQ.ret1 rfl rfl ?_; refine ⟨_, rfl, ?_, hst⟩; subst hb28
      rfl
  refine DRW.op1 rfl rfl (runs_load1 sc4 rfl (hst.cell_own (k := 0) rfl rfl)) trivial ?_
  refine DRW.q rfl rfl (fun w' hF => runs_move rfl) ?_; refine DRW.split (t := 28) rfl (fun hb28 => ?_) (fun hb28 => ?_)
  · have hb28p := hb28; try simp only [decide_eq_true_eq, decide_eq_false_iff_not] at hb28p
    refine DRW.q_off rfl rfl rfl rfl hb28 rfl ?_; refine DRW.q_off rfl rfl rfl rfl hb28 rfl ?_; refine DRW.q rfl rfl (fun w' hF => runs_pick_true rfl hb28 rfl) ?_
    refine DRW.op1 rfl rfl (runs_load1 sc3 rfl (hst.cell_own (k := 0) rfl rfl)) trivial ?_
    refine DRW.q rfl rfl (fun w' hF => runs_add rfl rfl (by omega)) ?_; refine DRW.q rfl rfl (fun w' hF => runs_nilCheck rfl) ?_
    refine DRW.q rfl rfl (fun w' hF => runs_fieldAddr0 rfl Tryz.underlying186 rfl ti3 (by decide)) ?_
    refine DRW.opE0 rfl (runs_store1P ti3 rfl rfl hst (k := 0) rfl rfl (NoFz.zero _) rfl) ?_
    rintro w hstn; clear hst; have hst := hstn; clear hstn; try simp only [List.set_cons_zero, List.set_cons_succ] at hst
    refine ⟨trivial, ?_⟩; refine DRW.q rfl rfl (fun w' hF => runs_nilCheck rfl) ?_
    refine DRW.q rfl rfl (fun w' hF => runs_fieldAddr0 rfl Tryz.underlying186 rfl ti4 (by decide)) ?_
    refine DRW.opE0 rfl (runs_store1P ti4 rfl rfl hst (k := 0) rfl rfl (NoFz.zero _) rfl) ?_
    rintro w hstn; clear hst; have hst := hstn; clear hstn; try simp only [List.set_cons_zero, List.set_cons_succ] at hst
    refine ⟨trivial, ?_⟩; refine DRW.done ?_; refine AQ.next ?_; refine CW.seq ?_; refine CW.region ?_; refine RW.op1 rfl (runs_move rfl) ?_; refine RW.op1 rfl (runs_assign rfl) ?_; refine RW.done ?_; refine AQ.next ?_; refine CW.ret ?_; refine AQ.ret1 rfl rfl ?_; refine ⟨_, rfl, ?_, hst⟩; subst hb28
    rfl
  · have hb28p := hb28; try simp only [decide_eq_true_eq, decide_eq_false_iff_not] at hb28p
    refine DRW.q_on rfl rfl rfl rfl hb28 rfl (fun w' hF => runs_move rfl) ?_; refine DRW.q_on rfl rfl rfl rfl hb28 rfl (fun w' hF => runs_not rfl) ?_; refine DRW.q rfl rfl (fun w' hF => runs_pick_false rfl hb28 rfl) ?_
    refine DRW.op1 rfl rfl (runs_load1 sc3 rfl (hst.cell_own (k := 0) rfl rfl)) trivial ?_
    refine DRW.q rfl rfl (fun w' hF => runs_add rfl rfl (by omega)) ?_; refine DRW.q rfl rfl (fun w' hF => runs_nilCheck rfl) ?_
    refine DRW.q rfl rfl (fun w' hF => runs_fieldAddr0 rfl Tryz.underlying186 rfl ti3 (by decide)) ?_
    refine DRW.opE0 rfl (runs_store1P ti3 rfl rfl hst (k := 0) rfl rfl (NoFz.zero _) rfl) ?_
    rintro w hstn; clear hst; have hst := hstn; clear hstn; try simp only [List.set_cons_zero, List.set_cons_succ] at hst
    refine ⟨trivial, ?_⟩; refine DRW.q rfl rfl (fun w' hF => runs_nilCheck rfl) ?_
    refine DRW.q rfl rfl (fun w' hF => runs_fieldAddr0 rfl Tryz.underlying186 rfl ti4 (by decide)) ?_
    refine DRW.opE0 rfl (runs_store1P ti4 rfl rfl hst (k := 0) rfl rfl (NoFz.zero _) rfl) ?_
    rintro w hstn; clear hst; have hst := hstn; clear hstn; try simp only [List.set_cons_zero, List.set_cons_succ] at hst
    refine ⟨trivial, ?_⟩; refine DRW.done ?_; refine AQ.next ?_; refine CW.seq ?_; refine CW.region ?_; refine RW.op1 rfl (runs_move rfl) ?_; refine RW.op1 rfl (runs_assign rfl) ?_; refine RW.done ?_; refine AQ.next ?_; refine CW.ret ?_; refine AQ.ret1 rfl rfl ?_; refine ⟨_, rfl, ?_, hst⟩; subst hb28
    rfl
set_option maxRecDepth 100000 in
set_option maxHeartbeats 1000000 in
theorem rd_text_spec {w0 w : World} {I : Imm} {L : Own} {bR : Nat} {v : Value} {s : Nat} {bad : Bool} (hst : St w0 w I ((bR, Obj.cells #[v, .int .i64 ((s : Nat) : Int), .bool bad] 186) :: L)) {av : List AV} {m : Nat} {o : Bool} (hv : RdA I v av) (hgood : ∀ a ∈ av, a.good m o) (hs : s ≤ 4000000000) :
    Calls Tryz.prog 146 #[.pointer (some ⟨bR, 0, none⟩)] w fun e w' => ∃ bad', e = .returned (.string (txtOf (atA av (s : Int)))) ∧ bad' = (bad || !isTxt (atA av (s : Int))) ∧ St w0 w' I ((bR, Obj.cells #[v, .int .i64 ((s + 1 : Nat) : Int), .bool bad'] 186) :: L) := by
  refine enter Tryz.func146 rfl (N := 37) rfl rfl ?_
  simp only [List.zipIdx_cons, List.zipIdx_nil, List.map_cons, List.map_nil, Nat.zero_add, Nat.reduceAdd]
  have hle := Imm.le.refl I; refine CW.seq ?_; refine CW.region ?_; refine RW.op1 rfl (runs_assign rfl) ?_; refine RW.done ?_; refine AQ.next ?_; refine CW.seq ?_; refine CW.drawSt hst (.q 0 (.q 1 (.q 2 (.q 3 (.q 4 (.q 5 (.q 6 (.q 7 (.l 8 (.q 9 (.q 10 (.q 11 (.q 12 (.q 13 .nil)))))))))))))) follows (by kernel_rfl) (fun w hst => ?_); refine DRW.q rfl rfl (fun w' hF => runs_move rfl) ?_; refine DRW.q rfl rfl (fun w' hF => runs_nilCheck rfl) ?_
  refine DRW.q rfl rfl (fun w' hF => runs_fieldAddr0 rfl Tryz.underlying186 rfl ti95 (by decide)) ?_
  refine DRW.q rfl rfl (FSt.load1_own sc95 rfl (k := 0) rfl rfl) ?_
  refine DRW.q rfl rfl (fun w' hF => runs_move rfl) ?_; refine DRW.q rfl rfl (fun w' hF => runs_nilCheck rfl) ?_
  refine DRW.q rfl rfl (fun w' hF => runs_fieldAddr0 rfl Tryz.underlying186 rfl ti3 (by decide)) ?_
  refine DRW.q rfl rfl (FSt.load1_own sc3 rfl (k := 0) rfl rfl) ?_
  refine DRW.call rfl rfl call72 rfl rfl (text__spec hst hv hgood (s : Int)) ?_; rintro e w ⟨rfl, hstn⟩; clear hst; have hst := hstn; clear hstn; have has := as_txt (atA_good hgood (s : Int)); rw [has.1, has.2]; refine ⟨_, rfl, FSt.ofA hst (Imm.le.refl _), ?_⟩; refine DRW.q rfl rfl (fun w' hF => runs_move rfl) ?_; refine DRW.q rfl rfl (fun w' hF => runs_extract rfl rfl) ?_; refine DRW.q rfl rfl (fun w' hF => runs_extract rfl rfl) ?_; refine DRW.q rfl rfl (fun w' hF => runs_assign rfl) ?_; refine DRW.q rfl rfl (fun w' hF => runs_assign rfl) ?_; refine DRW.done ?_; refine AQ.next ?_; refine CW.seq ?_; refine CW.draw (fun _ => True) (.q 0 (.q 1 (.q 2 (.q 3 (.q 4 (.q 7 (.q 8 (.q 9 (.fork (.l 5 (.q 6 (.l 10 (.q 11 (.q 12 (.q 13 (.q 14 (.q 15 (.q 16 (.l 17 (.q 18 (.q 19 (.l 20 .nil))))))))))))) (.l 10 (.q 11 (.q 12 (.q 13 (.q 14 (.l 5 (.q 6 (.q 15 (.q 16 (.l 17 (.q 18 (.q 19 (.l 20 .nil)))))))))))))))))))))) follows (by kernel_rfl) trivial ?_; replace hst := hst.draw; refine DRW.q rfl rfl (fun w' hF => runs_move rfl) ?_; refine DRW.q rfl rfl (fun w' hF => runs_move rfl) ?_; refine DRW.q rfl rfl (fun w' hF => runs_move rfl) ?_; refine DRW.q rfl rfl (fun w' hF => runs_nilCheck rfl) ?_
  refine DRW.q rfl rfl (fun w' hF => runs_fieldAddr0 rfl Tryz.underlying186 rfl ti3 (by decide)) ?_
  refine DRW.q rfl rfl (fun w' hF => runs_move rfl) ?_; refine DRW.q rfl rfl (fun w' hF => runs_nilCheck rfl) ?_
  refine DRW.q rfl rfl (fun w' hF => runs_fieldAddr0 rfl Tryz.underlying186 rfl ti4 (by decide)) ?_
  refine DRW.fork ?_ ?_
  · refine DRW.op1 rfl rfl (runs_load1 sc3 rfl (hst.cell_own (k := 0) rfl rfl)) trivial ?_
    refine DRW.q rfl rfl (fun w' hF => runs_add rfl rfl (by omega)) ?_
    refine DRW.op1 rfl rfl (runs_load1 sc4 rfl (hst.cell_own (k := 0) rfl rfl)) trivial ?_
    refine DRW.q rfl rfl (fun w' hF => runs_move rfl) ?_; refine DRW.split (t := 28) rfl (fun hb28 => ?_) (fun hb28 => ?_)
    · have hb28p := hb28; try simp only [decide_eq_true_eq, decide_eq_false_iff_not] at hb28p
      refine DRW.q_off rfl rfl rfl rfl hb28 rfl ?_; refine DRW.q_off rfl rfl rfl rfl hb28 rfl ?_; refine DRW.q rfl rfl (fun w' hF => runs_pick_true rfl hb28 rfl) ?_; refine DRW.q rfl rfl (fun w' hF => runs_nilCheck rfl) ?_
      refine DRW.q rfl rfl (fun w' hF => runs_fieldAddr0 rfl Tryz.underlying186 rfl ti3 (by decide)) ?_
      refine DRW.opE0 rfl (runs_store1P ti3 rfl rfl hst (k := 0) rfl rfl (NoFz.zero _) rfl) ?_
      rintro w hstn; clear hst; have hst := hstn; clear hstn; try simp only [List.set_cons_zero, List.set_cons_succ] at hst
      refine ⟨trivial, ?_⟩; refine DRW.q rfl rfl (fun w' hF => runs_nilCheck rfl) ?_
      refine DRW.q rfl rfl (fun w' hF => runs_fieldAddr0 rfl Tryz.underlying186 rfl ti4 (by decide)) ?_
      refine DRW.opE0 rfl (runs_store1P ti4 rfl rfl hst (k := 0) rfl rfl (NoFz.zero _) rfl) ?_
      rintro w hstn; clear hst; have hst := hstn; clear hstn; try simp only [List.set_cons_zero, List.set_cons_succ] at hst
      refine ⟨trivial, ?_⟩; refine DRW.done ?_; refine AQ.next ?_; refine CW.seq ?_; refine CW.region ?_; refine RW.op1 rfl (runs_move rfl) ?_; refine RW.op1 rfl (runs_assign rfl) ?_; refine RW.done ?_; refine AQ.next ?_; refine CW.ret ?_; refine AQ.ret1 rfl rfl ?_; refine ⟨_, rfl, ?_, hst⟩; subst hb28
      rfl
    · have hb28p := hb28; try simp only [decide_eq_true_eq, decide_eq_false_iff_not] at hb28p
      refine DRW.q_on rfl rfl rfl rfl hb28 rfl (fun w' hF => runs_move rfl) ?_; refine DRW.q_on rfl rfl rfl rfl hb28 rfl (fun w' hF => runs_not rfl) ?_; refine DRW.q rfl rfl (fun w' hF => runs_pick_false rfl hb28 rfl) ?_; refine DRW.q rfl rfl (fun w' hF => runs_nilCheck rfl) ?_
      refine DRW.q rfl rfl (fun w' hF => runs_fieldAddr0 rfl Tryz.underlying186 rfl ti3 (by decide)) ?_
      refine DRW.opE0 rfl (runs_store1P ti3 rfl rfl hst (k := 0) rfl rfl (NoFz.zero _) rfl) ?_
      rintro w hstn; clear hst; have hst := hstn; clear hstn; try simp only [List.set_cons_zero, List.set_cons_succ] at hst
      refine ⟨trivial, ?_⟩; refine DRW.q rfl rfl (fun w' hF => runs_nilCheck rfl) ?_
      refine DRW.q rfl rfl (fun w' hF => runs_fieldAddr0 rfl Tryz.underlying186 rfl ti4 (by decide)) ?_
      refine DRW.opE0 rfl (runs_store1P ti4 rfl rfl hst (k := 0) rfl rfl (NoFz.zero _) rfl) ?_
      rintro w hstn; clear hst; have hst := hstn; clear hstn; try simp only [List.set_cons_zero, List.set_cons_succ] at hst
      refine ⟨trivial, ?_⟩; refine DRW.done ?_; refine AQ.next ?_; refine CW.seq ?_; refine CW.region ?_; refine RW.op1 rfl (runs_move rfl) ?_; refine RW.op1 rfl (runs_assign rfl) ?_; refine RW.done ?_; refine AQ.next ?_; refine CW.ret ?_; refine AQ.ret1 rfl rfl ?_; refine ⟨_, rfl, ?_, hst⟩; subst hb28
      rfl
  refine DRW.op1 rfl rfl (runs_load1 sc4 rfl (hst.cell_own (k := 0) rfl rfl)) trivial ?_
  refine DRW.q rfl rfl (fun w' hF => runs_move rfl) ?_; refine DRW.split (t := 28) rfl (fun hb28 => ?_) (fun hb28 => ?_)
  · have hb28p := hb28; try simp only [decide_eq_true_eq, decide_eq_false_iff_not] at hb28p
    refine DRW.q_off rfl rfl rfl rfl hb28 rfl ?_; refine DRW.q_off rfl rfl rfl rfl hb28 rfl ?_; refine DRW.q rfl rfl (fun w' hF => runs_pick_true rfl hb28 rfl) ?_
    refine DRW.op1 rfl rfl (runs_load1 sc3 rfl (hst.cell_own (k := 0) rfl rfl)) trivial ?_
    refine DRW.q rfl rfl (fun w' hF => runs_add rfl rfl (by omega)) ?_; refine DRW.q rfl rfl (fun w' hF => runs_nilCheck rfl) ?_
    refine DRW.q rfl rfl (fun w' hF => runs_fieldAddr0 rfl Tryz.underlying186 rfl ti3 (by decide)) ?_
    refine DRW.opE0 rfl (runs_store1P ti3 rfl rfl hst (k := 0) rfl rfl (NoFz.zero _) rfl) ?_
    rintro w hstn; clear hst; have hst := hstn; clear hstn; try simp only [List.set_cons_zero, List.set_cons_succ] at hst
    refine ⟨trivial, ?_⟩; refine DRW.q rfl rfl (fun w' hF => runs_nilCheck rfl) ?_
    refine DRW.q rfl rfl (fun w' hF => runs_fieldAddr0 rfl Tryz.underlying186 rfl ti4 (by decide)) ?_
    refine DRW.opE0 rfl (runs_store1P ti4 rfl rfl hst (k := 0) rfl rfl (NoFz.zero _) rfl) ?_
    rintro w hstn; clear hst; have hst := hstn; clear hstn; try simp only [List.set_cons_zero, List.set_cons_succ] at hst
    refine ⟨trivial, ?_⟩; refine DRW.done ?_; refine AQ.next ?_; refine CW.seq ?_; refine CW.region ?_; refine RW.op1 rfl (runs_move rfl) ?_; refine RW.op1 rfl (runs_assign rfl) ?_; refine RW.done ?_; refine AQ.next ?_; refine CW.ret ?_; refine AQ.ret1 rfl rfl ?_; refine ⟨_, rfl, ?_, hst⟩; subst hb28
    rfl
  · have hb28p := hb28; try simp only [decide_eq_true_eq, decide_eq_false_iff_not] at hb28p
    refine DRW.q_on rfl rfl rfl rfl hb28 rfl (fun w' hF => runs_move rfl) ?_; refine DRW.q_on rfl rfl rfl rfl hb28 rfl (fun w' hF => runs_not rfl) ?_; refine DRW.q rfl rfl (fun w' hF => runs_pick_false rfl hb28 rfl) ?_
    refine DRW.op1 rfl rfl (runs_load1 sc3 rfl (hst.cell_own (k := 0) rfl rfl)) trivial ?_
    refine DRW.q rfl rfl (fun w' hF => runs_add rfl rfl (by omega)) ?_; refine DRW.q rfl rfl (fun w' hF => runs_nilCheck rfl) ?_
    refine DRW.q rfl rfl (fun w' hF => runs_fieldAddr0 rfl Tryz.underlying186 rfl ti3 (by decide)) ?_
    refine DRW.opE0 rfl (runs_store1P ti3 rfl rfl hst (k := 0) rfl rfl (NoFz.zero _) rfl) ?_
    rintro w hstn; clear hst; have hst := hstn; clear hstn; try simp only [List.set_cons_zero, List.set_cons_succ] at hst
    refine ⟨trivial, ?_⟩; refine DRW.q rfl rfl (fun w' hF => runs_nilCheck rfl) ?_
    refine DRW.q rfl rfl (fun w' hF => runs_fieldAddr0 rfl Tryz.underlying186 rfl ti4 (by decide)) ?_
    refine DRW.opE0 rfl (runs_store1P ti4 rfl rfl hst (k := 0) rfl rfl (NoFz.zero _) rfl) ?_
    rintro w hstn; clear hst; have hst := hstn; clear hstn; try simp only [List.set_cons_zero, List.set_cons_succ] at hst
    refine ⟨trivial, ?_⟩; refine DRW.done ?_; refine AQ.next ?_; refine CW.seq ?_; refine CW.region ?_; refine RW.op1 rfl (runs_move rfl) ?_; refine RW.op1 rfl (runs_assign rfl) ?_; refine RW.done ?_; refine AQ.next ?_; refine CW.ret ?_; refine AQ.ret1 rfl rfl ?_; refine ⟨_, rfl, ?_, hst⟩; subst hb28
    rfl
set_option maxRecDepth 100000 in
set_option maxHeartbeats 1000000 in
theorem rd_flag_spec {w0 w : World} {I : Imm} {L : Own} {bR : Nat} {v : Value} {s : Nat} {bad : Bool} (hst : St w0 w I ((bR, Obj.cells #[v, .int .i64 ((s : Nat) : Int), .bool bad] 186) :: L)) {av : List AV} {m : Nat} {o : Bool} (hv : RdA I v av) (hgood : ∀ a ∈ av, a.good m o) (hs : s ≤ 4000000000) :
    Calls Tryz.prog 148 #[.pointer (some ⟨bR, 0, none⟩)] w fun e w' => ∃ bad', e = .returned (.bool (flgOf (atA av (s : Int)))) ∧ bad' = (bad || !isFlg (atA av (s : Int))) ∧ St w0 w' I ((bR, Obj.cells #[v, .int .i64 ((s + 1 : Nat) : Int), .bool bad'] 186) :: L) := by
  refine enter Tryz.func148 rfl (N := 37) rfl rfl ?_
  simp only [List.zipIdx_cons, List.zipIdx_nil, List.map_cons, List.map_nil, Nat.zero_add, Nat.reduceAdd]
  have hle := Imm.le.refl I; refine CW.seq ?_; refine CW.region ?_; refine RW.op1 rfl (runs_assign rfl) ?_; refine RW.done ?_; refine AQ.next ?_; refine CW.seq ?_; refine CW.drawSt hst (.q 0 (.q 1 (.q 2 (.q 3 (.q 4 (.q 5 (.q 6 (.q 7 (.l 8 (.q 9 (.q 10 (.q 11 (.q 12 (.q 13 .nil)))))))))))))) follows (by kernel_rfl) (fun w hst => ?_); refine DRW.q rfl rfl (fun w' hF => runs_move rfl) ?_; refine DRW.q rfl rfl (fun w' hF => runs_nilCheck rfl) ?_
  refine DRW.q rfl rfl (fun w' hF => runs_fieldAddr0 rfl Tryz.underlying186 rfl ti95 (by decide)) ?_
  refine DRW.q rfl rfl (FSt.load1_own sc95 rfl (k := 0) rfl rfl) ?_
  refine DRW.q rfl rfl (fun w' hF => runs_move rfl) ?_; refine DRW.q rfl rfl (fun w' hF => runs_nilCheck rfl) ?_
  refine DRW.q rfl rfl (fun w' hF => runs_fieldAddr0 rfl Tryz.underlying186 rfl ti3 (by decide)) ?_
  refine DRW.q rfl rfl (FSt.load1_own sc3 rfl (k := 0) rfl rfl) ?_
  refine DRW.call rfl rfl call155 rfl rfl (flag_spec hst hv hgood (s : Int)) ?_; rintro e w ⟨rfl, hstn⟩; clear hst; have hst := hstn; clear hstn; have has := as_flg (atA_good hgood (s : Int)); rw [has.1, has.2]; refine ⟨_, rfl, FSt.ofA hst (Imm.le.refl _), ?_⟩; refine DRW.q rfl rfl (fun w' hF => runs_move rfl) ?_; refine DRW.q rfl rfl (fun w' hF => runs_extract rfl rfl) ?_; refine DRW.q rfl rfl (fun w' hF => runs_extract rfl rfl) ?_; refine DRW.q rfl rfl (fun w' hF => runs_assign rfl) ?_; refine DRW.q rfl rfl (fun w' hF => runs_assign rfl) ?_; refine DRW.done ?_; refine AQ.next ?_; refine CW.seq ?_; refine CW.draw (fun _ => True) (.q 0 (.q 1 (.q 2 (.q 3 (.q 4 (.q 7 (.q 8 (.q 9 (.fork (.l 5 (.q 6 (.l 10 (.q 11 (.q 12 (.q 13 (.q 14 (.q 15 (.q 16 (.l 17 (.q 18 (.q 19 (.l 20 .nil))))))))))))) (.l 10 (.q 11 (.q 12 (.q 13 (.q 14 (.l 5 (.q 6 (.q 15 (.q 16 (.l 17 (.q 18 (.q 19 (.l 20 .nil)))))))))))))))))))))) follows (by kernel_rfl) trivial ?_; replace hst := hst.draw; refine DRW.q rfl rfl (fun w' hF => runs_move rfl) ?_; refine DRW.q rfl rfl (fun w' hF => runs_move rfl) ?_; refine DRW.q rfl rfl (fun w' hF => runs_move rfl) ?_; refine DRW.q rfl rfl (fun w' hF => runs_nilCheck rfl) ?_
  refine DRW.q rfl rfl (fun w' hF => runs_fieldAddr0 rfl Tryz.underlying186 rfl ti3 (by decide)) ?_
  refine DRW.q rfl rfl (fun w' hF => runs_move rfl) ?_; refine DRW.q rfl rfl (fun w' hF => runs_nilCheck rfl) ?_
  refine DRW.q rfl rfl (fun w' hF => runs_fieldAddr0 rfl Tryz.underlying186 rfl ti4 (by decide)) ?_
  refine DRW.fork ?_ ?_
  · refine DRW.op1 rfl rfl (runs_load1 sc3 rfl (hst.cell_own (k := 0) rfl rfl)) trivial ?_
    refine DRW.q rfl rfl (fun w' hF => runs_add rfl rfl (by omega)) ?_
    refine DRW.op1 rfl rfl (runs_load1 sc4 rfl (hst.cell_own (k := 0) rfl rfl)) trivial ?_
    refine DRW.q rfl rfl (fun w' hF => runs_move rfl) ?_; refine DRW.split (t := 28) rfl (fun hb28 => ?_) (fun hb28 => ?_)
    · have hb28p := hb28; try simp only [decide_eq_true_eq, decide_eq_false_iff_not] at hb28p
      refine DRW.q_off rfl rfl rfl rfl hb28 rfl ?_; refine DRW.q_off rfl rfl rfl rfl hb28 rfl ?_; refine DRW.q rfl rfl (fun w' hF => runs_pick_true rfl hb28 rfl) ?_; refine DRW.q rfl rfl (fun w' hF => runs_nilCheck rfl) ?_
      refine DRW.q rfl rfl (fun w' hF => runs_fieldAddr0 rfl Tryz.underlying186 rfl ti3 (by decide)) ?_
      refine DRW.opE0 rfl (runs_store1P ti3 rfl rfl hst (k := 0) rfl rfl (NoFz.zero _) rfl) ?_
      rintro w hstn; clear hst; have hst := hstn; clear hstn; try simp only [List.set_cons_zero, List.set_cons_succ] at hst
      refine ⟨trivial, ?_⟩; refine DRW.q rfl rfl (fun w' hF => runs_nilCheck rfl) ?_
      refine DRW.q rfl rfl (fun w' hF => runs_fieldAddr0 rfl Tryz.underlying186 rfl ti4 (by decide)) ?_
      refine DRW.opE0 rfl (runs_store1P ti4 rfl rfl hst (k := 0) rfl rfl (NoFz.zero _) rfl) ?_
      rintro w hstn; clear hst; have hst := hstn; clear hstn; try simp only [List.set_cons_zero, List.set_cons_succ] at hst
      refine ⟨trivial, ?_⟩; refine DRW.done ?_; refine AQ.next ?_; refine CW.seq ?_; refine CW.region ?_; refine RW.op1 rfl (runs_move rfl) ?_; refine RW.op1 rfl (runs_assign rfl) ?_; refine RW.done ?_; refine AQ.next ?_; refine CW.ret ?_; refine AQ.ret1 rfl rfl ?_; refine ⟨_, rfl, ?_, hst⟩; subst hb28
      rfl
    · have hb28p := hb28; try simp only [decide_eq_true_eq, decide_eq_false_iff_not] at hb28p
      refine DRW.q_on rfl rfl rfl rfl hb28 rfl (fun w' hF => runs_move rfl) ?_; refine DRW.q_on rfl rfl rfl rfl hb28 rfl (fun w' hF => runs_not rfl) ?_; refine DRW.q rfl rfl (fun w' hF => runs_pick_false rfl hb28 rfl) ?_; refine DRW.q rfl rfl (fun w' hF => runs_nilCheck rfl) ?_
      refine DRW.q rfl rfl (fun w' hF => runs_fieldAddr0 rfl Tryz.underlying186 rfl ti3 (by decide)) ?_
      refine DRW.opE0 rfl (runs_store1P ti3 rfl rfl hst (k := 0) rfl rfl (NoFz.zero _) rfl) ?_
      rintro w hstn; clear hst; have hst := hstn; clear hstn; try simp only [List.set_cons_zero, List.set_cons_succ] at hst
      refine ⟨trivial, ?_⟩; refine DRW.q rfl rfl (fun w' hF => runs_nilCheck rfl) ?_
      refine DRW.q rfl rfl (fun w' hF => runs_fieldAddr0 rfl Tryz.underlying186 rfl ti4 (by decide)) ?_
      refine DRW.opE0 rfl (runs_store1P ti4 rfl rfl hst (k := 0) rfl rfl (NoFz.zero _) rfl) ?_
      rintro w hstn; clear hst; have hst := hstn; clear hstn; try simp only [List.set_cons_zero, List.set_cons_succ] at hst
      refine ⟨trivial, ?_⟩; refine DRW.done ?_; refine AQ.next ?_; refine CW.seq ?_; refine CW.region ?_; refine RW.op1 rfl (runs_move rfl) ?_; refine RW.op1 rfl (runs_assign rfl) ?_; refine RW.done ?_; refine AQ.next ?_; refine CW.ret ?_; refine AQ.ret1 rfl rfl ?_; refine ⟨_, rfl, ?_, hst⟩; subst hb28
      rfl
  refine DRW.op1 rfl rfl (runs_load1 sc4 rfl (hst.cell_own (k := 0) rfl rfl)) trivial ?_
  refine DRW.q rfl rfl (fun w' hF => runs_move rfl) ?_; refine DRW.split (t := 28) rfl (fun hb28 => ?_) (fun hb28 => ?_)
  · have hb28p := hb28; try simp only [decide_eq_true_eq, decide_eq_false_iff_not] at hb28p
    refine DRW.q_off rfl rfl rfl rfl hb28 rfl ?_; refine DRW.q_off rfl rfl rfl rfl hb28 rfl ?_; refine DRW.q rfl rfl (fun w' hF => runs_pick_true rfl hb28 rfl) ?_
    refine DRW.op1 rfl rfl (runs_load1 sc3 rfl (hst.cell_own (k := 0) rfl rfl)) trivial ?_
    refine DRW.q rfl rfl (fun w' hF => runs_add rfl rfl (by omega)) ?_; refine DRW.q rfl rfl (fun w' hF => runs_nilCheck rfl) ?_
    refine DRW.q rfl rfl (fun w' hF => runs_fieldAddr0 rfl Tryz.underlying186 rfl ti3 (by decide)) ?_
    refine DRW.opE0 rfl (runs_store1P ti3 rfl rfl hst (k := 0) rfl rfl (NoFz.zero _) rfl) ?_
    rintro w hstn; clear hst; have hst := hstn; clear hstn; try simp only [List.set_cons_zero, List.set_cons_succ] at hst
    refine ⟨trivial, ?_⟩; refine DRW.q rfl rfl (fun w' hF => runs_nilCheck rfl) ?_
    refine DRW.q rfl rfl (fun w' hF => runs_fieldAddr0 rfl Tryz.underlying186 rfl ti4 (by decide)) ?_
    refine DRW.opE0 rfl (runs_store1P ti4 rfl rfl hst (k := 0) rfl rfl (NoFz.zero _) rfl) ?_
    rintro w hstn; clear hst; have hst := hstn; clear hstn; try simp only [List.set_cons_zero, List.set_cons_succ] at hst
    refine ⟨trivial, ?_⟩; refine DRW.done ?_; refine AQ.next ?_; refine CW.seq ?_; refine CW.region ?_; refine RW.op1 rfl (runs_move rfl) ?_; refine RW.op1 rfl (runs_assign rfl) ?_; refine RW.done ?_; refine AQ.next ?_; refine CW.ret ?_; refine AQ.ret1 rfl rfl ?_; refine ⟨_, rfl, ?_, hst⟩; subst hb28
    rfl
  · have hb28p := hb28; try simp only [decide_eq_true_eq, decide_eq_false_iff_not] at hb28p
    refine DRW.q_on rfl rfl rfl rfl hb28 rfl (fun w' hF => runs_move rfl) ?_; refine DRW.q_on rfl rfl rfl rfl hb28 rfl (fun w' hF => runs_not rfl) ?_; refine DRW.q rfl rfl (fun w' hF => runs_pick_false rfl hb28 rfl) ?_
    refine DRW.op1 rfl rfl (runs_load1 sc3 rfl (hst.cell_own (k := 0) rfl rfl)) trivial ?_
    refine DRW.q rfl rfl (fun w' hF => runs_add rfl rfl (by omega)) ?_; refine DRW.q rfl rfl (fun w' hF => runs_nilCheck rfl) ?_
    refine DRW.q rfl rfl (fun w' hF => runs_fieldAddr0 rfl Tryz.underlying186 rfl ti3 (by decide)) ?_
    refine DRW.opE0 rfl (runs_store1P ti3 rfl rfl hst (k := 0) rfl rfl (NoFz.zero _) rfl) ?_
    rintro w hstn; clear hst; have hst := hstn; clear hstn; try simp only [List.set_cons_zero, List.set_cons_succ] at hst
    refine ⟨trivial, ?_⟩; refine DRW.q rfl rfl (fun w' hF => runs_nilCheck rfl) ?_
    refine DRW.q rfl rfl (fun w' hF => runs_fieldAddr0 rfl Tryz.underlying186 rfl ti4 (by decide)) ?_
    refine DRW.opE0 rfl (runs_store1P ti4 rfl rfl hst (k := 0) rfl rfl (NoFz.zero _) rfl) ?_
    rintro w hstn; clear hst; have hst := hstn; clear hstn; try simp only [List.set_cons_zero, List.set_cons_succ] at hst
    refine ⟨trivial, ?_⟩; refine DRW.done ?_; refine AQ.next ?_; refine CW.seq ?_; refine CW.region ?_; refine RW.op1 rfl (runs_move rfl) ?_; refine RW.op1 rfl (runs_assign rfl) ?_; refine RW.done ?_; refine AQ.next ?_; refine CW.ret ?_; refine AQ.ret1 rfl rfl ?_; refine ⟨_, rfl, ?_, hst⟩; subst hb28
    rfl
set_option maxRecDepth 100000 in
set_option maxHeartbeats 1000000 in
theorem rd_heads_spec {w0 w : World} {I : Imm} {L : Own} {bR : Nat} {v : Value} {s : Nat} {bad : Bool} (hst : St w0 w I ((bR, Obj.cells #[v, .int .i64 ((s : Nat) : Int), .bool bad] 186) :: L)) {av : List AV} {m : Nat} {o : Bool} (hv : RdA I v av) (hgood : ∀ a ∈ av, a.good m o) (n : Int) (hn : i64ok n) (hsb : bad = false → s ≤ av.length) (hs9 : s ≤ av.length + 9) (hlen : av.length ≤ 100000000) :
    Calls Tryz.prog 147 #[.pointer (some ⟨bR, 0, none⟩), .int .i64 n] w fun e w' => ∃ I' vh, I.le I' ∧ e = .returned vh ∧ RdH I' vh (rdH av n.toNat (s, bad)).1 ∧ St w0 w' I' ((bR, Obj.cells #[v, .int .i64 (((rdH av n.toNat (s, bad)).2.1 : Nat) : Int), .bool (rdH av n.toNat (s, bad)).2.2] 186) :: L) := by
  unfold i64ok at hn; obtain ⟨nn, hnn⟩ : ∃ k, n.toNat = k := ⟨_, rfl⟩; rw [hnn]; refine enter Tryz.func147 rfl (N := 31) rfl rfl ?_
  simp only [List.zipIdx_cons, List.zipIdx_nil, List.map_cons, List.map_nil, Nat.zero_add, Nat.reduceAdd]
  have hle := Imm.le.refl I; refine CW.seq ?_; refine CW.region ?_; refine RW.op1 rfl (runs_assign rfl) ?_; refine RW.done ?_; refine AQ.next ?_; refine CW.seq ?_; refine CW.region ?_; refine RW.op1 rfl (runs_assign rfl) ?_; refine RW.done ?_; refine AQ.next ?_; refine CW.seq ?_; refine CW.seq ?_; refine CW.region ?_; refine RW.op1 rfl (runs_assign rfl) ?_; refine RW.done ?_; refine AQ.next ?_; refine CW.block ?_; refine CW.loop (Nat × Imm × Value × Own × List HRow × Nat × Bool) (fun x w => I.le x.2.1 ∧ RdA x.2.1 v av ∧ St w0 w x.2.1 ((bR, Obj.cells #[v, .int .i64 ((x.2.2.2.2.2.1 : Nat) : Int), .bool x.2.2.2.2.2.2] 186) :: (x.2.2.2.1 ++ L)) ∧ Grow 54 2 x.2.2.1 (x.2.2.2.2.1).length ((x.2.2.2.2.1).flatMap hrow) x.2.2.2.1 ∧ (rdH av nn (s, bad)).1 = x.2.2.2.2.1 ++ (rdH av (nn - x.1) (x.2.2.2.2.2.1, x.2.2.2.2.2.2)).1 ∧ (rdH av nn (s, bad)).2 = (rdH av (nn - x.1) (x.2.2.2.2.2.1, x.2.2.2.2.2.2)).2 ∧ (x.2.2.2.2.2.2 = false → x.2.2.2.2.2.1 ≤ av.length) ∧ x.2.2.2.2.2.1 ≤ av.length + 9 ∧ x.2.2.2.2.1.length ≤ x.2.2.2.2.2.1 ∧ x.1 ≤ nn) (fun x => [(0, .pointer (some ⟨bR, 0, none⟩)), (1, .int .i64 n), (5, x.2.2.1), (6, .int .i64 (x.1 : Int))]) (fun x => nn - x.1) ⟨(0, _, _, [], [], s, bad), ⟨hle, hv, hst, Grow.nil _ _, rfl, rfl, hsb, by dsimp only; omega, Nat.zero_le _, Nat.zero_le _⟩, ⟨rfl, rfl, rfl, rfl, trivial⟩⟩ ?_; clear hle hv hst hsb; rintro ⟨i, J, vo, Lo, acc, s1, bad1⟩ w ⟨hle, hv, hst, hg, he1, he2, hsb, hs1, ha1, hi⟩; dsimp only at hle hv hst hg he1 he2 hsb hs1 ha1 hi ⊢
  refine CW.seq ?_; refine CW.seq ?_; refine CW.cut Unit (fun _ w => St w0 w J ((bR, Obj.cells #[v, .int .i64 ((s1 : Nat) : Int), .bool bad1] 186) :: (Lo ++ L))) (fun _ => [(0, .pointer (some ⟨bR, 0, none⟩)), (1, .int .i64 n), (5, vo), (6, .int .i64 (i : Int)), (17, .bool (decide (i < nn ∧ bad1 = false)))]) ?_ ?_
  ·
    refine CW.region ?_; refine RW.op1 rfl (runs_move rfl) ?_; refine RW.op1 rfl (runs_move rfl) ?_; refine RW.op1 rfl (runs_lss rfl rfl) ?_; refine RW.op1 rfl (runs_move rfl) ?_; refine RW.split (t := 11) rfl (fun hb11 => ?_) (fun hb11 => ?_)
    · have hb11p := hb11; try simp only [decide_eq_true_eq, decide_eq_false_iff_not] at hb11p
      refine RW.on_guard rfl rfl rfl rfl hb11 ?_; refine RW.op1 rfl (runs_move rfl) ?_; refine RW.on_guard rfl rfl rfl rfl hb11 ?_; refine RW.op1 rfl (runs_nilCheck rfl) ?_; refine RW.on_guard rfl rfl rfl rfl hb11 ?_
      refine RW.op1 rfl (runs_fieldAddr0 rfl Tryz.underlying186 rfl ti4 (by decide)) ?_
      refine RW.on_guard rfl rfl rfl rfl hb11 ?_
      refine RW.op1 rfl (runs_load1 sc4 rfl (hst.cell_own (k := 0) rfl rfl)) ?_
      refine RW.on_guard rfl rfl rfl rfl hb11 ?_; refine RW.op1 rfl (runs_not rfl) ?_; refine RW.op1 rfl (runs_pick_true rfl hb11 rfl) ?_; refine RW.done ?_; exact AQ.meet () hst ⟨rfl, rfl, rfl, rfl, boolN (by cases bad1 <;> simp <;> omega), trivial⟩
    · have hb11p := hb11; try simp only [decide_eq_true_eq, decide_eq_false_iff_not] at hb11p
      refine RW.off_guard rfl rfl rfl rfl hb11 ?_; refine RW.off_guard rfl rfl rfl rfl hb11 ?_; refine RW.off_guard rfl rfl rfl rfl hb11 ?_; refine RW.off_guard rfl rfl rfl rfl hb11 ?_; refine RW.off_guard rfl rfl rfl rfl hb11 ?_; refine RW.op1 rfl (runs_pick_false rfl hb11 rfl) ?_; refine RW.done ?_; exact AQ.meet () hst ⟨rfl, rfl, rfl, rfl, boolN (by cases bad1 <;> simp <;> omega), trivial⟩
  · rintro _ w hstn; clear hst; have hst := hstn; clear hstn; refine AQ.next ?_; refine CW.cond rfl (fun hc17 => ?_) (fun hc17 => ?_)
    · have hcb17 := hc17; try simp only [decide_eq_true_eq, decide_eq_false_iff_not] at hc17
      have h17 : i < nn ∧ bad1 = false := of_decide_eq_true hcb17; have hsl := hsb h17.2; refine CW.skip ?_; refine AQ.next ?_; refine CW.seq ?_; refine CW.block ?_; refine CW.seq ?_; refine CW.region ?_; refine RW.op1 rfl (runs_move rfl) ?_; refine RW.call rfl call146 rfl rfl (rd_text_spec hst hv hgood (by omega)) ?_; rintro e w ⟨bad2, rfl, hb2, hstn⟩; clear hst; have hst := hstn; clear hstn; refine ⟨_, rfl, ?_⟩; refine RW.op1 rfl (runs_buildF (cells := [_, _]) bz54 rfl rfl rfl rfl rfl) ?_; refine RW.opE rfl (runs_alloc ti54 hst) ?_; rintro _ w ⟨b2, rfl, hstn⟩; clear hst; have hst := hstn; clear hstn
      refine RW.opE0 (runs_storeW ti54 rfl rfl hst (k := 0) rfl rfl rfl (NoFz.zero _) rfl) ?_
      rintro w hstn; clear hst; have hst := hstn; clear hstn; try simp only [List.set_cons_zero, List.set_cons_succ] at hst
      refine RW.done ?_; refine AQ.next ?_; refine CW.seq ?_; refine CW.region ?_; refine RW.op1 rfl (runs_move rfl) ?_; replace hst := hst.perm (List.Perm.swap _ _ _); refine RW.call rfl call146 rfl rfl (rd_text_spec hst hv hgood (by omega)) ?_; rintro e w ⟨bad3, rfl, hb3, hstn⟩; clear hst; have hst := hstn; clear hstn; replace hst := hst.perm (List.Perm.swap _ _ _); refine ⟨_, rfl, ?_⟩
      refine RW.op1 rfl (runs_fieldAddr0 rfl Tryz.underlying54 rfl ti9 (by decide)) ?_
      refine RW.opE0 (runs_store1P ti9 rfl rfl hst (k := 0) rfl rfl (NoFz.zero _) rfl) ?_
      rintro w hstn; clear hst; have hst := hstn; clear hstn; try simp only [List.set_cons_zero, List.set_cons_succ] at hst
      refine RW.done ?_; refine AQ.next ?_; refine CW.region ?_; refine RW.op1 rfl (runs_move rfl) ?_
      refine RW.op1 rfl (runs_loadN (vs := [_, _]) ag54 ti54 rfl hst (k := 0) rfl rfl rfl) ?_
      refine RW.opE rfl (runs_litF (xs := [.agg #[_, _]]) Tryz.underlying34 ti54 (by decide) rfl rfl rfl rfl rfl hst (by decide)) ?_; rintro u5 w ⟨Lv5, hstn, hg5⟩; clear hst; have hst := hstn; clear hstn; obtain ⟨J5, hJ5, hstn, h5⟩ := Grow.freeze hg5 hst; clear hst; have hst := hstn; clear hstn; replace hv := hv.mono hJ5; replace hle := hle.trans hJ5; try simp only [List.nil_append] at h5
      replace h5 : RdL J5 2 u5 1 (hrow (txtOf (atA av (s1 : Int)), txtOf (atA av ((s1 + 1 : Nat) : Int)))) := h5; have hT := h5; refine RW.opE rfl (runs_appendRA [_, _] Tryz.underlying34 ti54 rfl (by decide) rfl rfl hst hg hT (by omega) (by unfold maxLen; omega)) ?_; rintro uN w ⟨LvN, hstn, hgN⟩; clear hst; have hst := hstn; clear hstn; refine RW.op1 rfl (runs_assign rfl) ?_; refine RW.done ?_; refine AQ.block_normal ?_; refine AQ.next ?_; refine CW.region ?_; refine RW.op1 rfl (runs_move rfl) ?_; refine RW.op1 rfl (runs_add rfl rfl (by omega)) ?_; refine RW.op1 rfl (runs_assign rfl) ?_; refine RW.done ?_; obtain ⟨q, hq⟩ : ∃ q, nn - i = q + 1 := ⟨nn - i - 1, by omega⟩
      have hq2 : nn - (i + 1) = q := by omega
      have hb3' : bad3 = (!(isTxt (atA av (s1 : Int))) || !(isTxt (atA av ((s1 + 1 : Nat) : Int)))) := by rw [hb3, hb2, h17.2, Bool.false_or]
      rw [hq, rdH, if_neg (by rw [h17.2]; exact Bool.false_ne_true)] at he1 he2; dsimp only at he1 he2; rw [← hb3'] at he1 he2; refine AQ.again (x := (i, J, vo, Lo, acc, s1, bad1)) (i + 1, _, uN, LvN, acc ++ [(txtOf (atA av (s1 : Int)), txtOf (atA av ((s1 + 1 : Nat) : Int)))], s1 + 2, bad3) ⟨hle, hv, hst.drop1, ?_, ?_, ?_, ?_, by dsimp only; omega, by dsimp only; rw [List.length_append, List.length_singleton]; omega, by dsimp only; omega⟩ ⟨rfl, rfl, rfl, rfl, trivial⟩ (by dsimp only; omega)
      · dsimp only; rw [List.length_append, List.flatMap_append]; exact hgN
      · dsimp only; rw [hq2, he1, List.append_assoc]
        rfl
      · dsimp only; rw [hq2, he2]
      · intro h0; dsimp only at h0 ⊢; rw [hb3', Bool.or_eq_false_iff, Bool.not_eq_false', Bool.not_eq_false'] at h0; have := is_in (.inr (.inl h0.2)); omega
    · have hcb17 := hc17; try simp only [decide_eq_true_eq, decide_eq_false_iff_not] at hc17
      have h17 : ¬ (i < nn ∧ bad1 = false) := of_decide_eq_false hcb17; refine CW.exit ?_; refine AQ.past_exit ?_; refine AQ.past_exit ?_; refine AQ.block_hit ?_; refine AQ.next ?_; refine CW.seq ?_; refine CW.region ?_; refine RW.op1 rfl (runs_move rfl) ?_; refine RW.op1 rfl (runs_assign rfl) ?_; refine RW.done ?_; refine AQ.next ?_; refine CW.ret ?_; refine AQ.ret1 rfl rfl ?_; obtain ⟨J', hJ', hst', hr⟩ := hg.freeze (hst.perm (List.perm_middle (l₁ := Lo)).symm)
      have hfin : rdH av (nn - i) (s1, bad1) = ([], (s1, bad1)) := by
        rcases Nat.lt_or_ge i nn with h | h
        · exact rdH_bad av _ _ (by
            cases hb : bad1 with
            | true => rfl
            | false => exact absurd ⟨h, hb⟩ h17)
        · rw [show nn - i = 0 by omega]; rfl
      rw [hfin] at he1 he2; dsimp only at he1 he2; rw [List.append_nil] at he1; refine ⟨J', _, hle.trans hJ', rfl, ?_, ?_⟩
      · rw [he1]; exact hr
      · rw [he2]; exact hst'
end Go.Proofs.YtadgbifmiooikaaGreatX
