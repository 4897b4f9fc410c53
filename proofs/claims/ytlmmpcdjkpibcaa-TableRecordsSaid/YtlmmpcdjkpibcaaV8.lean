/- Records done: what these come to. -/
import Derived.Test.YtlmmpcdjkpibcaaT
import Derived.Test.YtlmmpcdjkpibcaaV7
namespace Go.Proofs.YtlmmpcdjkpibcaaX
set_option linter.unusedVariables false
set_option linter.unusedSimpArgs false
open Go Go.RowKit Go.Proofs

def txtL (a : AV) : List UInt8 := (txtOf a).toList
/-- The parts of a record, one behind the other. -/
def allB (av : List AV) : List UInt8 := (av.drop 1).flatMap txtL
def putOk (av : List AV) (b : List UInt8) : Option It := match decIt (allB av) with
  | some it => if recB it = b then some it else none
  | none => none
theorem allB_take {av : List AV} {k : Nat} (hk : 1 ≤ k) (h : k < av.length) : ((av.drop 1).take (k + 1 - 1)).flatMap txtL = ((av.drop 1).take (k - 1)).flatMap txtL ++ txtL av[k] := by
  obtain ⟨j, rfl⟩ : ∃ j, k = j + 1 := ⟨k - 1, by omega⟩
  rw [show j + 1 + 1 - 1 = j + 1 by omega, show j + 1 - 1 = j by omega, List.take_add_one, List.getElem?_drop, show 1 + j = j + 1 by omega, List.getElem?_eq_getElem h, List.flatMap_append]
  simp
theorem flat_part {α : Type} (f : α → List UInt8) (l : List α) (k : Nat) : ((l.take k).flatMap f).length ≤ (l.flatMap f).length := by
  have : l.flatMap f = (l.take k).flatMap f ++ (l.drop k).flatMap f := by rw [← List.flatMap_append, List.take_append_drop]
  rw [this, List.length_append]
  omega
theorem decF_txt : ∀ (n : Nat) (b : List UInt8) (av : List AV), decF n b = some av → (av.flatMap txtL).length ≤ b.length
  | 0, b, av, h => by
    unfold decF at h
    split at h
    · cases h; simp
    · cases h
  | n + 1, b, av, h => by
    unfold decF at h
    split at h
    · cases h; simp
    · rename_i hb
      cases hd : dec1 b with
      | none => rw [hd] at h; cases h
      | some x =>
        obtain ⟨a, k⟩ := x
        rw [hd] at h
        dsimp only at h
        obtain ⟨r, hr, rfl⟩ := Option.map_eq_some_iff.1 h
        have ih := decF_txt n _ r hr
        have hpos : 0 < b.length := List.length_pos_iff.2 hb
        have hk := dec1_le hpos hd
        have ha : (txtL a).length ≤ k := by
          unfold dec1 at hd
          have := bat_lt b 1
          split at hd
          · cases hd; rw [show ∀ t, txtL (AV.flg t) = [] from fun t => by unfold txtL txtOf; rw [ByteArray.toList_eq]]; exact Nat.zero_le _
          · split at hd
            · cases hd; rw [show ∀ n, txtL (AV.num n) = [] from fun n => by unfold txtL txtOf; rw [ByteArray.toList_eq]]; exact Nat.zero_le _
            · split at hd
              · cases hd
                show ((strOf _).toList).length ≤ _
                rw [strOf_toList, List.length_take]
                omega
              · cases hd
        rw [List.length_drop] at ih
        rw [List.flatMap_cons, List.length_append]
        omega
theorem allB_le {b : List UInt8} {av : List AV} (h : decA b = some av) : (allB av).length ≤ b.length := by
  have h1 := decF_txt _ _ _ h
  unfold allB
  have : av.flatMap txtL = (av.take 1).flatMap txtL ++ (av.drop 1).flatMap txtL := by rw [← List.flatMap_append, List.take_append_drop]
  rw [this, List.length_append] at h1
  omega
set_option maxRecDepth 100000 in
set_option maxHeartbeats 4000000 in
theorem putting_spec {w0 w : World} {I : Imm} {L : Own} (hst : St w0 w I L) {v vb : Value} {av : List AV} {b : List UInt8} {m : Nat} {o : Bool} (hv : RdA I v av) (hgood : ∀ a ∈ av, a.good m o) (hvb : RdB I vb b) (hlen : av.length ≤ 100000000) (hall : (allB av).length ≤ 100000000) :
    Calls Try.prog 31 #[v, vb] w fun e w' => ∃ I' it vh, I.le I' ∧ e = .returned (.tuple #[itv it vh, .bool (putOk av b).isSome]) ∧ vh.oneCell' = true ∧ RdH I' vh it.heads ∧ ItOk it ∧ (∀ it', putOk av b = some it' → it = it') ∧ St w0 w' I' L := by
  refine enter Try.func31 rfl (N := 47) rfl rfl ?_
  simp only [List.zipIdx_cons, List.zipIdx_nil, List.map_cons, List.map_nil, Nat.zero_add, Nat.reduceAdd]
  have hle := Imm.le.refl I
  refine CW.seq ?_
  -- region 0
  refine CW.region ?_
  refine RW.opE rfl (runs_alloc ti36 hst) ?_
  rintro _ w ⟨b1, rfl, hstn⟩
  clear hst
  have hst := hstn
  clear hstn
  refine RW.op1 rfl (runs_assign rfl) ?_
  refine RW.done ?_
  refine AQ.next ?_
  refine CW.seq ?_
  -- region 1
  refine CW.region ?_
  refine RW.op1 rfl (runs_assign rfl) ?_
  refine RW.done ?_
  refine AQ.next ?_
  refine CW.seq ?_
  refine CW.seq ?_
  -- region 2
  refine CW.region ?_
  obtain ⟨o1, ho1⟩ : ∃ o, St w0 w I ((b1, o) :: L) ∧ o = Obj.cells (itv zeroIt (.slice none 0 0)).cells 36 := ⟨_, hst, rfl⟩
  obtain ⟨ho1, hob⟩ := ho1
  clear hst
  refine RW.op1 rfl (runs_assign rfl) ?_
  refine RW.done ?_
  refine AQ.next ?_
  refine CW.block ?_
  -- loop 1
  refine CW.loop (Nat × Value × Own) (fun x w => St w0 w I (x.2.2 ++ ((b1, o1) :: L)) ∧ GrowB 5 x.2.1 (((av.drop 1).take (x.1 - 1)).flatMap txtL) x.2.2 ∧ 1 ≤ x.1 ∧ (x.1 ≤ av.length ∨ x.1 = 1)) (fun x => [(0, v), (1, vb), (4, .pointer (some ⟨b1, 0, none⟩)), (6, x.2.1), (7, .int .i64 (x.1 : Int))]) (fun x => av.length + 1 - x.1) ⟨(1, _, []), ⟨ho1, GrowB.nil _, Nat.le_refl _, .inr rfl⟩, ⟨rfl, rfl, rfl, rfl, rfl, trivial⟩⟩ ?_
  clear ho1
  rintro ⟨k, vo, Lo⟩ w ⟨hst, hg, hk1, hk2⟩
  dsimp only at hst hg hk1 hk2 ⊢
  refine CW.seq ?_
  refine CW.seq ?_
  -- region 3
  refine CW.region ?_
  refine RW.op1 rfl (runs_move rfl) ?_
  refine RW.op1 rfl (runs_move rfl) ?_
  refine RW.op1 rfl (RdL.len Try.underlying50 rfl hv) ?_
  refine RW.op1 rfl (runs_lss rfl rfl) ?_
  refine RW.done ?_
  refine AQ.next ?_
  refine CW.cond rfl (fun hc17 => ?_) (fun hc17 => ?_)
  · have hcb17 := hc17
    try simp only [decide_eq_true_eq, decide_eq_false_iff_not] at hc17
    have hk : k < av.length := by omega
    have hst5 := allB_take hk1 hk
    have hp1 := flat_part txtL (av.drop 1) (k - 1)
    have hp2 := flat_part txtL (av.drop 1) (k + 1 - 1)
    rw [hst5, List.length_append] at hp2
    have hall2 : ((av.drop 1).flatMap txtL).length ≤ 100000000 := hall
    have hsz : (txtOf (atA av (k : Int))).size = (txtL av[k]).length := by unfold txtL; rw [size_toList, atA_nat hk]
    have hat := atA_nat hk
    refine CW.skip ?_
    refine AQ.next ?_
    refine CW.seq ?_
    refine CW.block ?_
    refine CW.seq ?_
    -- region 5
    refine CW.region ?_
    refine RW.op1 rfl (runs_move rfl) ?_
    refine RW.op1 rfl (runs_move rfl) ?_
    refine RW.call rfl call29 rfl rfl (text__spec hst hv hgood (k : Int)) ?_
    rintro e w ⟨rfl, hstn⟩
    clear hst
    have hst := hstn
    clear hstn
    have has := as_txt (atA_good hgood (k : Int))
    rw [has.1, has.2]
    refine ⟨_, rfl, ?_⟩
    refine RW.op1 rfl (runs_move rfl) ?_
    refine RW.op1 rfl (runs_extract rfl rfl) ?_
    refine RW.op1 rfl (runs_extract rfl rfl) ?_
    refine RW.op1 rfl (runs_assign rfl) ?_
    refine RW.op1 rfl (runs_assign rfl) ?_
    refine RW.done ?_
    refine AQ.next ?_
    -- region 6
    refine CW.region ?_
    refine RW.op1 rfl (runs_move rfl) ?_
    refine RW.op1 rfl (runs_move rfl) ?_
    refine RW.opE rfl (runs_appendS Try.underlying43 ti5 Try.underlying9 rfl rfl hst hg (by omega)) ?_
    rintro uN w ⟨LvN, hstn, hgN⟩
    clear hst
    have hst := hstn
    clear hstn
    refine RW.op1 rfl (runs_assign rfl) ?_
    refine RW.done ?_
    refine AQ.block_normal ?_
    refine AQ.next ?_
    -- region 4
    refine CW.region ?_
    refine RW.op1 rfl (runs_move rfl) ?_
    refine RW.op1 rfl (runs_add rfl rfl (by omega)) ?_
    refine RW.op1 rfl (runs_assign rfl) ?_
    refine RW.done ?_
    exact AQ.again (x := (k, vo, Lo)) (k + 1, uN, LvN) ⟨hst, by dsimp only; rw [hst5]; unfold txtL; rw [← hat]; exact hgN, by dsimp only; omega, .inl (by dsimp only; omega)⟩ ⟨rfl, rfl, rfl, rfl, rfl, trivial⟩ (by dsimp only; omega)
  · have hcb17 := hc17
    try simp only [decide_eq_true_eq, decide_eq_false_iff_not] at hc17
    skip
    refine CW.exit ?_
    refine AQ.past_exit ?_
    refine AQ.past_exit ?_
    refine AQ.block_hit ?_
    refine AQ.next ?_
    refine CW.seq ?_
    -- region 7
    refine CW.region ?_
    have hfin : ((av.drop 1).take (k - 1)).flatMap txtL = allB av := by
      unfold allB
      rw [List.take_of_length_le (by rw [List.length_drop]; omega)]
    rw [hfin] at hg
    obtain ⟨J7, hJ7, hst7, hva⟩ := GrowB.freeze hg hst
    clear hst
    have hst := hst7
    clear hst7
    replace hv : RdA J7 v av := RdL.mono hJ7 hv
    replace hvb : RdB J7 vb b := RdL.mono hJ7 hvb
    replace hle := hle.trans hJ7
    refine RW.op1 rfl (runs_move rfl) ?_
    refine RW.call rfl call50 rfl rfl (itdec_spec hst hva hall) ?_
    rintro e w ⟨J31, it, vh, hJ31, rfl, hone, hvh, hok, hit, hstn⟩
    clear hst
    have hst := hstn
    clear hstn
    replace hvb := hvb.mono hJ31
    replace hle := hle.trans hJ31
    refine ⟨_, rfl, ?_⟩
    refine RW.op1 rfl (runs_move rfl) ?_
    refine RW.op1 rfl (runs_extract rfl rfl) ?_
    refine RW.op1 rfl (runs_extract rfl rfl) ?_
    refine RW.opE rfl (runs_alloc ti36 hst) ?_
    rintro _ w ⟨b5, rfl, hstn⟩
    clear hst
    have hst := hstn
    clear hstn
    refine RW.opE0 (runs_storeW ti36 rfl rfl hst (k := 0) rfl rfl rfl (NoFz.zero _) (it_one _ hone)) ?_
    rintro w hstn
    clear hst
    have hst := hstn
    clear hstn
    try simp only [List.set_cons_zero, List.set_cons_succ] at hst
    refine RW.op1 rfl (runs_assign rfl) ?_
    refine RW.done ?_
    refine AQ.next ?_
    refine CW.seq ?_
    -- region 8
    refine CW.region ?_
    refine RW.op1 rfl (runs_loadN (vs := [.int .i64 (it).id, .int .i64 (it).kind, .int .i64 (it).group, .string (it).name, .string (it).method, .string (it).url, vh, .string (it).body, .int .i64 (it).mode, .int .i64 (it).creds, .string (it).page, .string (it).csp, .int .i64 (it).refer, .string (it).nurl, .string (it).nmethod, .string (it).nbody, .int .i64 (it).hops, .int .i64 (it).tries, .int .i64 (it).til, .bool (it).tainted, .string (it).got, .string (it).tag, .int .i64 (it).state, .int .i64 (it).code, .bool (it).acked]) ag36 ti36 rfl hst (k := 0) rfl rfl rfl) ?_
    refine RW.call rfl call20 rfl rfl (putrec_spec hst hvh hok) ?_
    rintro e w ⟨J36, v36, hJ36, rfl, hstn, hv36⟩
    clear hst
    have hst := hstn
    clear hstn
    replace hvb := hvb.mono hJ36
    replace hvh := hvh.mono hJ36
    replace hle := hle.trans hJ36
    refine ⟨_, rfl, ?_⟩
    refine RW.op1 rfl (runs_move rfl) ?_
    refine RW.op1 rfl (runs_extract rfl rfl) ?_
    refine RW.op1 rfl (runs_extract rfl rfl) ?_
    refine RW.op1 rfl (runs_assign rfl) ?_
    refine RW.op1 rfl (runs_assign rfl) ?_
    refine RW.done ?_
    refine AQ.next ?_
    refine CW.seq ?_
    -- region 9
    subst hob
    refine CW.draw (FSt w0 J36 ((_, Obj.cells #[.int .i64 (it).id, .int .i64 (it).kind, .int .i64 (it).group, .string (it).name, .string (it).method, .string (it).url, vh, .string (it).body, .int .i64 (it).mode, .int .i64 (it).creds, .string (it).page, .string (it).csp, .int .i64 (it).refer, .string (it).nurl, .string (it).nmethod, .string (it).nbody, .int .i64 (it).hops, .int .i64 (it).tries, .int .i64 (it).til, .bool (it).tainted, .string (it).got, .string (it).tag, .int .i64 (it).state, .int .i64 (it).code, .bool (it).acked] 36) :: L)) (.q 0 (.q 1 (.q 2 (.q 3 (.q 4 (.q 5 (.l 6 (.q 7 (.l 8 (.q 9 .nil)))))))))) follows (by kernel_rfl) ⟨_, Imm.le.refl _, hst.draw.sub ((List.sublist_cons_self _ _).cons_cons _)⟩ ?_
    replace hst := hst.draw
    refine DRW.q rfl rfl (FSt.loadN (vs := [.int .i64 (it).id, .int .i64 (it).kind, .int .i64 (it).group, .string (it).name, .string (it).method, .string (it).url, vh, .string (it).body, .int .i64 (it).mode, .int .i64 (it).creds, .string (it).page, .string (it).csp, .int .i64 (it).refer, .string (it).nurl, .string (it).nmethod, .string (it).nbody, .int .i64 (it).hops, .int .i64 (it).tries, .int .i64 (it).til, .bool (it).tainted, .string (it).got, .string (it).tag, .int .i64 (it).state, .int .i64 (it).code, .bool (it).acked]) ag36 ti36 rfl (k := 0) rfl rfl rfl) ?_
    refine DRW.q rfl rfl (fun w' hF => runs_move rfl) ?_
    refine DRW.q rfl rfl (fun w' hF => runs_eqI rfl rfl) ?_
    refine DRW.q rfl rfl (fun w' hF => runs_move rfl) ?_
    refine DRW.split (t := 42) rfl (fun hb42 => ?_) (fun hb42 => ?_)
    · have hb42p := hb42
      try simp only [decide_eq_true_eq, decide_eq_false_iff_not] at hb42p
      refine DRW.q_on rfl rfl rfl rfl hb42 rfl (fun w' hF => runs_move rfl) ?_
      refine DRW.q_on rfl rfl rfl rfl hb42 rfl (fun w' hF => runs_move rfl) ?_
      refine DRW.call_on rfl rfl rfl rfl hb42 rfl call51 rfl rfl (bequal_spec hst hv36 hvb) ?_
      rintro e w ⟨rfl, hstn⟩
      clear hst
      have hst := hstn
      clear hstn
      refine ⟨_, rfl, FSt.of hst (Imm.le.refl _) ((List.sublist_cons_self _ _).cons_cons _), ?_⟩
      refine DRW.q rfl rfl (fun w' hF => runs_pick_true rfl hb42 rfl) ?_
      refine DRW.opE0 rfl (runs_storeW ti36 rfl rfl hst (k := 1) rfl rfl rfl (NoFz.zero _) (it_one _ hone)) ?_
      rintro w hstn
      clear hst
      have hst := hstn
      clear hstn
      try simp only [List.set_cons_zero, List.set_cons_succ] at hst
      refine ⟨FSt.of hst (Imm.le.refl _) ((List.sublist_cons_self _ _).cons_cons _), ?_⟩
      refine DRW.q rfl rfl (fun w' hF => runs_assign rfl) ?_
      refine DRW.done ?_
      refine AQ.next ?_
      refine CW.ret ?_
      refine AQ.retL (rs := [.cell 4 36, .tmp 5]) (vs := [_, _]) rfl ⟨⟨_, rfl, hst.loadN (vs := [_, _, _, _, _, _, _, _, _, _, _, _, _, _, _, _, _, _, _, _, _, _, _, _, _]) (k := 1) ag36 ti36 rfl rfl rfl⟩, rfl, trivial⟩ (by simp) ?_
      obtain ⟨it2, hd2⟩ : ∃ x, decIt (allB av) = some x := by
        cases h : decIt (allB av) with
        | none => rw [h] at hb42; simp at hb42
        | some x => exact ⟨x, rfl⟩
      rw [hd2] at hit
      obtain rfl : it = it2 := hit
      have hpo : putOk av b = if recB it = b then some it else none := by unfold putOk; rw [hd2]
      refine ⟨J36, it, vh, hle, ?_, hone, hvh, hok, fun it' h => ?_, hst.drop1.drop1⟩
      · rw [hpo, if_pos (decIt_eq hd2).1]
        by_cases h : recB it = b
        · rw [if_pos h, h]; simp
        · rw [if_neg h]; simp [h]
      · rw [hpo] at h
        split at h
        · exact Option.some.inj h
        · cases h
    · have hb42p := hb42
      try simp only [decide_eq_true_eq, decide_eq_false_iff_not] at hb42p
      refine DRW.q_off rfl rfl rfl rfl hb42 rfl ?_
      refine DRW.q_off rfl rfl rfl rfl hb42 rfl ?_
      refine DRW.l_off rfl rfl rfl rfl hb42 rfl ?_
      refine DRW.q rfl rfl (fun w' hF => runs_pick_false rfl hb42 rfl) ?_
      refine DRW.opE0 rfl (runs_storeW ti36 rfl rfl hst (k := 1) rfl rfl rfl (NoFz.zero _) (it_one _ hone)) ?_
      rintro w hstn
      clear hst
      have hst := hstn
      clear hstn
      try simp only [List.set_cons_zero, List.set_cons_succ] at hst
      refine ⟨FSt.of hst (Imm.le.refl _) ((List.sublist_cons_self _ _).cons_cons _), ?_⟩
      refine DRW.q rfl rfl (fun w' hF => runs_assign rfl) ?_
      refine DRW.done ?_
      refine AQ.next ?_
      refine CW.ret ?_
      refine AQ.retL (rs := [.cell 4 36, .tmp 5]) (vs := [_, _]) rfl ⟨⟨_, rfl, hst.loadN (vs := [_, _, _, _, _, _, _, _, _, _, _, _, _, _, _, _, _, _, _, _, _, _, _, _, _]) (k := 1) ag36 ti36 rfl rfl rfl⟩, rfl, trivial⟩ (by simp) ?_
      have hd2 : decIt (allB av) = none := by
        cases h : decIt (allB av) with
        | none => rfl
        | some x => rw [h] at hb42; simp at hb42
      have hpo : putOk av b = none := by unfold putOk; rw [hd2]
      exact ⟨J36, it, vh, hle, by rw [hpo]; rfl, hone, hvh, hok, (fun it' h => by rw [hpo] at h; cases h), hst.drop1.drop1⟩
end Go.Proofs.YtlmmpcdjkpibcaaX
