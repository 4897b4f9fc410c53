/- A record done to a table: what it comes to. -/
import Derived.Test.YtlmmpcdjkpibcaaT
import Derived.Test.YtlmmpcdjkpibcaaV8
namespace Go.Proofs.YtlmmpcdjkpibcaaX
set_option linter.unusedVariables false
set_option linter.unusedSimpArgs false
open Go Go.RowKit Go.Proofs

def putL : List UInt8 := [112, 117, 116]
def dropL : List UInt8 := [100, 114, 111, 112]
def nextL : List UInt8 := [110, 101, 120, 116]
def wordOf (av : List AV) : List UInt8 := (txtOf (atA av 0)).toList
/-- What a record does: its error, the rows, the next one's number. -/
def Ap (b : List UInt8) (rows : List TRow) (next : Int) (err : Int) (rows' : List TRow) (next' : Int) : Prop :=
  if wordOf ((decA b).getD []) = putL then match putOk ((decA b).getD []) b with
    | some it => err = 0 ∧ (∃ v, rows' = pput rows it.id (it, v)) ∧ next' = nextR next it.id
    | none => err = 2 ∧ rows' = rows ∧ next' = next
  else if isNum (atA ((decA b).getD []) 1) = true ∧ ((decA b).getD []).length = 2 then
    if wordOf ((decA b).getD []) = dropL then err = 0 ∧ rows' = pdel rows (numOf (atA ((decA b).getD []) 1)) ∧ next' = next
    else if wordOf ((decA b).getD []) = nextL then err = 0 ∧ rows' = rows ∧ next' = (if numOf (atA ((decA b).getD []) 1) > next then numOf (atA ((decA b).getD []) 1) else next)
    else err = 2 ∧ rows' = rows ∧ next' = next
  else err = 2 ∧ rows' = rows ∧ next' = next
theorem litLB (l : List UInt8) : (ByteArray.mk l.toArray).toList = l := by rw [ByteArray.toList_eq]
set_option maxRecDepth 100000 in
set_option maxHeartbeats 4000000 in
theorem apply_spec {w0 w : World} {I : Imm} {L : Own} {rows : List TRow} {next : Int} {bT : Nat} {Lt : Own} (hd : TbO I rows next bT Lt) (hst : St w0 w I (Lt ++ L)) {v : Value} {b : List UInt8} (hv : RdB I v b) (hlen : b.length ≤ 100000000) :
    Calls Try.prog 18 #[.pointer (some ⟨bT, 0, none⟩), v] w fun e w' => ∃ I' rows' next' Lt' err, I.le I' ∧ e = .returned (.int .i64 err) ∧ St w0 w' I' (Lt' ++ L) ∧ TbO I' rows' next' bT Lt' ∧ Ap b rows next err rows' next' := by
  refine enter Try.func18 rfl (N := 68) rfl rfl ?_
  simp only [List.zipIdx_cons, List.zipIdx_nil, List.map_cons, List.map_nil, Nat.zero_add, Nat.reduceAdd]
  have hle := Imm.le.refl I
  refine CW.seq ?_
  -- region 0
  refine CW.region ?_
  refine RW.op1 rfl (runs_assign rfl) ?_
  refine RW.done ?_
  refine AQ.next ?_
  refine CW.seq ?_
  -- region 1
  refine CW.region ?_
  refine RW.op1 rfl (runs_move rfl) ?_
  refine RW.call rfl call28 rfl rfl (dec_spec hst hv hlen) ?_
  rintro e w ⟨J15, v15, hJ15, rfl, hstn, hv15⟩
  clear hst
  have hst := hstn
  clear hstn
  obtain ⟨av, hav⟩ : ∃ av, (decA b).getD [] = av := ⟨_, rfl⟩
  rw [hav] at hv15
  have hgood : ∀ a ∈ av, a.good 255 false := by
    rw [← hav]
    cases h : decA b with
    | none => simp
    | some x => exact (decA_facts h).2
  have hal : av.length ≤ b.length := by
    rw [← hav]
    cases h : decA b with
    | none => simp
    | some x => exact (decA_facts h).1
  replace hv := hv.mono hJ15
  replace hd := hd.mono hJ15
  replace hle := hle.trans hJ15
  refine ⟨_, rfl, ?_⟩
  refine RW.op1 rfl (runs_move rfl) ?_
  refine RW.op1 rfl (runs_extract rfl rfl) ?_
  refine RW.op1 rfl (runs_extract rfl rfl) ?_
  refine RW.op1 rfl (runs_assign rfl) ?_
  refine RW.op1 rfl (runs_assign rfl) ?_
  refine RW.done ?_
  refine AQ.next ?_
  refine CW.seq ?_
  -- region 2
  refine CW.region ?_
  refine RW.op1 rfl (runs_move rfl) ?_
  refine RW.call rfl call29 rfl rfl (text__spec hst hv15 hgood 0) ?_
  rintro e w ⟨rfl, hstn⟩
  clear hst
  have hst := hstn
  clear hstn
  have has := as_txt (atA_good hgood 0)
  rw [has.1, has.2]
  obtain ⟨wd, hwd⟩ : ∃ x, txtOf (atA av 0) = x := ⟨_, rfl⟩
  obtain ⟨wb, hwb⟩ : ∃ x, isTxt (atA av 0) = x := ⟨_, rfl⟩
  rw [hwd, hwb]
  have hwl : wordOf av = wd.toList := by unfold wordOf; rw [hwd]
  refine ⟨_, rfl, ?_⟩
  refine RW.op1 rfl (runs_move rfl) ?_
  refine RW.op1 rfl (runs_extract rfl rfl) ?_
  refine RW.op1 rfl (runs_extract rfl rfl) ?_
  refine RW.op1 rfl (runs_assign rfl) ?_
  refine RW.op1 rfl (runs_assign rfl) ?_
  refine RW.done ?_
  refine AQ.next ?_
  refine CW.seq ?_
  -- region 3
  refine CW.region ?_
  refine RW.op1 rfl (runs_move rfl) ?_
  refine RW.call rfl call30 rfl rfl (int_spec hst hv15 hgood 1) ?_
  rintro e w ⟨rfl, hstn⟩
  clear hst
  have hst := hstn
  clear hstn
  have has1 := as_num (atA_good hgood 1)
  rw [has1.1, has1.2]
  obtain ⟨nn, hnn⟩ : ∃ x, numOf (atA av 1) = x := ⟨_, rfl⟩
  obtain ⟨nb, hnb⟩ : ∃ x, isNum (atA av 1) = x := ⟨_, rfl⟩
  have hnok : i64ok nn := by rw [← hnn]; exact numOf_ok (atA_good hgood 1)
  rw [hnn, hnb]
  refine ⟨_, rfl, ?_⟩
  refine RW.op1 rfl (runs_move rfl) ?_
  refine RW.op1 rfl (runs_extract rfl rfl) ?_
  refine RW.op1 rfl (runs_extract rfl rfl) ?_
  refine RW.op1 rfl (runs_assign rfl) ?_
  refine RW.op1 rfl (runs_assign rfl) ?_
  refine RW.done ?_
  refine AQ.next ?_
  refine CW.seq ?_
  refine CW.block ?_
  refine CW.seq ?_
  -- region 5
  refine CW.region ?_
  refine RW.op1 rfl (runs_move rfl) ?_
  refine RW.op1 rfl (runs_eqS rfl rfl) ?_
  refine RW.op1 rfl (runs_assign rfl) ?_
  refine RW.done ?_
  refine AQ.next ?_
  refine CW.cond rfl (fun hc28 => ?_) (fun hc28 => ?_)
  · have hcb28 := hc28
    try simp only [decide_eq_true_eq, decide_eq_false_iff_not] at hc28
    have h28 : wordOf av = putL := by
      rw [hwl]
      have := hcb28
      rw [show (ByteArray.mk #[112, 117, 116]).toList = putL from litLB _] at this
      exact beq_iff_eq.1 this
    obtain ⟨av1, hav1⟩ : ∃ x, decA b = some x := by
      cases h : decA b with
      | none =>
        rw [h] at hav
        have hav2 : ([] : List AV) = av := hav
        rw [← hav2] at h28
        unfold wordOf at h28
        rw [show (txtOf (atA ([] : List AV) 0)).toList = [] from by rw [atA_out (by decide)]; exact litLB []] at h28
        cases h28
      | some x => exact ⟨x, rfl⟩
    have he1 : av1 = av := by rw [hav1] at hav; exact hav
    rw [he1] at hav1
    have hall := allB_le hav1
    refine CW.seq ?_
    -- region 6
    refine CW.region ?_
    refine RW.op1 rfl (runs_move rfl) ?_
    refine RW.op1 rfl (runs_move rfl) ?_
    refine RW.call rfl call31 rfl rfl (putting_spec hst hv15 hgood hv (by omega) (by omega)) ?_
    rintro e w ⟨J34, it, vh, hJ34, rfl, hone, hvh, hok, hit, hstn⟩
    clear hst
    have hst := hstn
    clear hstn
    obtain ⟨pb, hpb⟩ : ∃ x, (putOk av b).isSome = x := ⟨_, rfl⟩
    rw [hpb]
    replace hv := hv.mono hJ34
    replace hd := hd.mono hJ34
    replace hv15 := hv15.mono hJ34
    replace hle := hle.trans hJ34
    refine ⟨_, rfl, ?_⟩
    refine RW.op1 rfl (runs_move rfl) ?_
    refine RW.op1 rfl (runs_extract rfl rfl) ?_
    refine RW.op1 rfl (runs_extract rfl rfl) ?_
    refine RW.opE rfl (runs_alloc ti36 hst) ?_
    rintro _ w ⟨b5, rfl, hstn⟩
    clear hst
    have hst := hstn
    clear hstn
    refine RW.opE0 (runs_storeW ti36 rfl rfl hst (k := 0) rfl rfl rfl (NoFz.zero _) (it_one _ hone)) ?_
    rintro w hstn
    clear hst
    have hst := hstn
    clear hstn
    try simp only [List.set_cons_zero, List.set_cons_succ] at hst
    refine RW.op1 rfl (runs_assign rfl) ?_
    refine RW.done ?_
    refine AQ.next ?_
    refine CW.seq ?_
    refine CW.seq ?_
    -- region 7
    refine CW.region ?_
    refine RW.op1 rfl (runs_move rfl) ?_
    refine RW.op1 rfl (runs_not rfl) ?_
    refine RW.done ?_
    refine AQ.next ?_
    refine CW.cond rfl (fun hc38 => ?_) (fun hc38 => ?_)
    · have hcb38 := hc38
      try simp only [decide_eq_true_eq, decide_eq_false_iff_not] at hc38
      have hpn : putOk av b = none := by
        cases h : putOk av b with
        | none => rfl
        | some x =>
          rw [h] at hpb
          rw [← hpb] at hcb38
          simp at hcb38
      refine CW.seq ?_
      -- region 8
      refine CW.region ?_
      refine RW.op1 rfl (runs_assign rfl) ?_
      refine RW.done ?_
      refine AQ.next ?_
      refine CW.ret ?_
      refine AQ.past_ret ?_
      refine AQ.block_ret ?_
      refine AQ.past_ret ?_
      refine AQ.ret1 rfl rfl ?_
      refine ⟨_, rows, next, Lt, 2, hle, rfl, hst.drop1, hd, ?_⟩
      unfold Ap
      rw [hav, if_pos h28, hpn]
      exact ⟨rfl, rfl, rfl⟩
    · have hcb38 := hc38
      try simp only [decide_eq_true_eq, decide_eq_false_iff_not] at hc38
      obtain ⟨it2, hpo⟩ : ∃ x, putOk av b = some x := by
        cases h : putOk av b with
        | none =>
          rw [h] at hpb
          rw [← hpb] at hcb38
          simp at hcb38
        | some x => exact ⟨x, rfl⟩
      have hit2 := hit _ hpo
      refine CW.skip ?_
      refine AQ.next ?_
      -- region 9
      refine CW.region ?_
      refine RW.op1 rfl (runs_move rfl) ?_
      refine RW.op1 rfl (runs_loadN (vs := [.int .i64 (it).id, .int .i64 (it).kind, .int .i64 (it).group, .string (it).name, .string (it).method, .string (it).url, vh, .string (it).body, .int .i64 (it).mode, .int .i64 (it).creds, .string (it).page, .string (it).csp, .int .i64 (it).refer, .string (it).nurl, .string (it).nmethod, .string (it).nbody, .int .i64 (it).hops, .int .i64 (it).tries, .int .i64 (it).til, .bool (it).tainted, .string (it).got, .string (it).tag, .int .i64 (it).state, .int .i64 (it).code, .bool (it).acked]) ag36 ti36 rfl hst (k := 0) rfl rfl rfl) ?_
      replace hst := hst.perm (List.perm_middle (l₁ := Lt)).symm
      refine RW.call rfl call10 rfl rfl (put_spec hd hst (hvh.srcH _) hok.len hok.id) ?_
      rintro e w ⟨J41, v41, Lt2, hJ41, rfl, hstn, hd2⟩
      clear hst
      have hst := hstn
      clear hstn
      replace hle := hle.trans hJ41
      refine ⟨_, rfl, ?_⟩
      refine RW.done ?_
      refine AQ.block_normal ?_
      refine AQ.next ?_
      refine CW.seq ?_
      -- region 16
      refine CW.region ?_
      refine RW.op1 rfl (runs_assign rfl) ?_
      refine RW.done ?_
      refine AQ.next ?_
      refine CW.ret ?_
      refine AQ.ret1 rfl rfl ?_
      subst hit2
      refine ⟨_, _, _, Lt2, 0, hle, rfl, hst.sub (List.Sublist.append (List.Sublist.refl _) (List.sublist_cons_self _ _)), hd2, ?_⟩
      unfold Ap
      rw [hav, if_pos h28, hpo]
      exact ⟨rfl, ⟨v41, rfl⟩, rfl⟩
  · have hcb28 := hc28
    try simp only [decide_eq_true_eq, decide_eq_false_iff_not] at hc28
    have h28 : wordOf av ≠ putL := by
      rw [hwl]
      have := hcb28
      rw [show (ByteArray.mk #[112, 117, 116]).toList = putL from litLB _] at this
      exact fun e => absurd ((beq_iff_eq (b := putL)).2 e) (by intro h; exact absurd (h.symm.trans this) (by decide))
    refine CW.seq ?_
    -- region 10
    refine CW.region ?_
    refine RW.op1 rfl (runs_move rfl) ?_
    refine RW.op1 rfl (runs_not rfl) ?_
    refine RW.op1 rfl (runs_move rfl) ?_
    refine RW.split (t := 45) rfl (fun hb45 => ?_) (fun hb45 => ?_)
    · have hb45p := hb45
      try simp only [decide_eq_true_eq, decide_eq_false_iff_not] at hb45p
      refine RW.off_guard rfl rfl rfl rfl hb45 ?_
      refine RW.off_guard rfl rfl rfl rfl hb45 ?_
      refine RW.off_guard rfl rfl rfl rfl hb45 ?_
      refine RW.op1 rfl (runs_pick_true rfl hb45 rfl) ?_
      refine RW.op1 rfl (runs_assign rfl) ?_
      refine RW.done ?_
      refine AQ.next ?_
      have h42 : ¬ (isNum (atA av 1) = true ∧ av.length = 2) := by
        first
          | (rintro ⟨h1, h2⟩
             rw [h2] at hcb42
             simp at hcb42
             done)
          | (intro h
             rw [hnb] at h
             rw [h.1] at hb45
             cases hb45)
      refine CW.cond_true rfl ?_
      refine CW.seq ?_
      -- region 11
      refine CW.region ?_
      refine RW.op1 rfl (runs_assign rfl) ?_
      refine RW.done ?_
      refine AQ.next ?_
      refine CW.ret ?_
      refine AQ.block_ret ?_
      refine AQ.past_ret ?_
      refine AQ.ret1 rfl rfl ?_
      refine ⟨_, rows, next, Lt, 2, hle, rfl, hst, hd, ?_⟩
      unfold Ap
      rw [hav, if_neg h28, if_neg (by rw [hnb]; intro h; rw [h.1] at hb45; cases hb45)]
      exact ⟨rfl, rfl, rfl⟩
    · have hb45p := hb45
      try simp only [decide_eq_true_eq, decide_eq_false_iff_not] at hb45p
      refine RW.on_guard rfl rfl rfl rfl hb45 ?_
      refine RW.op1 rfl (runs_move rfl) ?_
      refine RW.on_guard rfl rfl rfl rfl hb45 ?_
      refine RW.op1 rfl (RdL.len Try.underlying50 rfl hv15) ?_
      refine RW.on_guard rfl rfl rfl rfl hb45 ?_
      refine RW.op1 rfl (runs_neI rfl rfl) ?_
      refine RW.op1 rfl (runs_pick_false rfl hb45 rfl) ?_
      refine RW.op1 rfl (runs_assign rfl) ?_
      refine RW.done ?_
      refine AQ.next ?_
      refine CW.cond rfl (fun hc42 => ?_) (fun hc42 => ?_)
      · have hcb42 := hc42
        try simp only [decide_eq_true_eq, decide_eq_false_iff_not] at hc42
        have h42 : ¬ (isNum (atA av 1) = true ∧ av.length = 2) := by
          first
            | (rintro ⟨h1, h2⟩
               rw [h2] at hcb42
               simp at hcb42
               done)
            | (intro h
               rw [hnb] at h
               rw [h.1] at hb45
               cases hb45)
        refine CW.seq ?_
        -- region 11
        refine CW.region ?_
        refine RW.op1 rfl (runs_assign rfl) ?_
        refine RW.done ?_
        refine AQ.next ?_
        refine CW.ret ?_
        refine AQ.block_ret ?_
        refine AQ.past_ret ?_
        refine AQ.ret1 rfl rfl ?_
        refine ⟨_, rows, next, Lt, 2, hle, rfl, hst, hd, ?_⟩
        unfold Ap
        rw [hav, if_neg h28, if_neg h42]
        exact ⟨rfl, rfl, rfl⟩
      · have hcb42 := hc42
        try simp only [decide_eq_true_eq, decide_eq_false_iff_not] at hc42
        have h42 : isNum (atA av 1) = true ∧ av.length = 2 := by
          refine ⟨?_, ?_⟩
          · rw [hnb]; simpa using hb45
          · have : (av.length : Int) = 2 := by simpa using hcb42
            omega
        refine CW.seq ?_
        -- region 12
        refine CW.region ?_
        refine RW.op1 rfl (runs_move rfl) ?_
        refine RW.op1 rfl (runs_eqS rfl rfl) ?_
        refine RW.op1 rfl (runs_assign rfl) ?_
        refine RW.done ?_
        refine AQ.next ?_
        refine CW.cond rfl (fun hc50 => ?_) (fun hc50 => ?_)
        · have hcb50 := hc50
          try simp only [decide_eq_true_eq, decide_eq_false_iff_not] at hc50
          have h50 : wordOf av = dropL := by
            rw [hwl]
            have := hcb50
            rw [show (ByteArray.mk #[100, 114, 111, 112]).toList = dropL from litLB _] at this
            exact beq_iff_eq.1 this
          -- region 13
          refine CW.region ?_
          refine RW.op1 rfl (runs_move rfl) ?_
          refine RW.op1 rfl (runs_move rfl) ?_
          refine RW.call rfl call9 rfl rfl (drop_spec hd hst nn) ?_
          rintro e w ⟨Lt2, rfl, hstn, hd2⟩
          clear hst
          have hst := hstn
          clear hstn
          refine ⟨_, rfl, ?_⟩
          refine RW.done ?_
          refine AQ.block_normal ?_
          refine AQ.next ?_
          refine CW.seq ?_
          -- region 16
          refine CW.region ?_
          refine RW.op1 rfl (runs_assign rfl) ?_
          refine RW.done ?_
          refine AQ.next ?_
          refine CW.ret ?_
          refine AQ.ret1 rfl rfl ?_
          refine ⟨_, _, _, Lt2, 0, hle, rfl, hst, hd2, ?_⟩
          unfold Ap
          rw [hav, if_neg h28, if_pos h42, if_pos h50, hnn]
          exact ⟨rfl, rfl, rfl⟩
        · have hcb50 := hc50
          try simp only [decide_eq_true_eq, decide_eq_false_iff_not] at hc50
          have h50 : wordOf av ≠ dropL := by
            rw [hwl]
            have := hcb50
            rw [show (ByteArray.mk #[100, 114, 111, 112]).toList = dropL from litLB _] at this
            exact fun e => absurd ((beq_iff_eq (b := dropL)).2 e) (by intro h; exact absurd (h.symm.trans this) (by decide))
          refine CW.seq ?_
          -- region 14
          refine CW.region ?_
          refine RW.op1 rfl (runs_move rfl) ?_
          refine RW.op1 rfl (runs_eqS rfl rfl) ?_
          refine RW.op1 rfl (runs_assign rfl) ?_
          refine RW.done ?_
          refine AQ.next ?_
          refine CW.cond rfl (fun hc56 => ?_) (fun hc56 => ?_)
          · have hcb56 := hc56
            try simp only [decide_eq_true_eq, decide_eq_false_iff_not] at hc56
            have h56 : wordOf av = nextL := by
              rw [hwl]
              have := hcb56
              rw [show (ByteArray.mk #[110, 101, 120, 116]).toList = nextL from litLB _] at this
              exact beq_iff_eq.1 this
            obtain ⟨bM, oM, rfl, hm, hnd, hrows, hnx⟩ := hd
            -- region 15
            refine CW.region ?_
            refine RW.op1 rfl (runs_move rfl) ?_
            refine RW.op1 rfl (runs_move rfl) ?_
            refine RW.op1 rfl (runs_nilCheck rfl) ?_
            first
              | refine RW.op1 rfl (runs_fieldAddr0 rfl Try.underlying67 rfl ti3 (by decide)) ?_
              | refine RW.op1 rfl (runs_fieldAddr rfl Try.underlying67 rfl ti3 (by decide)) ?_
            first
              | refine RW.op1 rfl (runs_load1 sc3 rfl (hst.cell_own (k := 0) rfl rfl)) ?_
              | refine RW.op1 rfl (runs_load1 sc3 rfl (hst.cell_own (k := 1) rfl rfl)) ?_
              | refine RW.op1 rfl (runs_load1 sc3 rfl (hst.cell_own (k := 2) rfl rfl)) ?_
            refine RW.op1 rfl (runs_move rfl) ?_
            refine RW.op1 rfl (runs_max rfl rfl) ?_
            refine RW.op1 rfl (runs_nilCheck rfl) ?_
            first
              | refine RW.op1 rfl (runs_fieldAddr0 rfl Try.underlying67 rfl ti3 (by decide)) ?_
              | refine RW.op1 rfl (runs_fieldAddr rfl Try.underlying67 rfl ti3 (by decide)) ?_
            first
              | refine RW.opE0 (runs_store1P ti3 rfl rfl hst (k := 0) rfl rfl (NoFz.zero _) rfl) ?_
              | refine RW.opE0 (runs_store1P ti3 rfl rfl hst (k := 1) rfl rfl (NoFz.zero _) rfl) ?_
              | refine RW.opE0 (runs_store1P ti3 rfl rfl hst (k := 2) rfl rfl (NoFz.zero _) rfl) ?_
            rintro w hstn
            clear hst
            have hst := hstn
            clear hstn
            try simp only [List.set_cons_zero, List.set_cons_succ] at hst
            refine RW.done ?_
            refine AQ.block_normal ?_
            refine AQ.next ?_
            refine CW.seq ?_
            -- region 16
            refine CW.region ?_
            refine RW.op1 rfl (runs_assign rfl) ?_
            refine RW.done ?_
            refine AQ.next ?_
            refine CW.ret ?_
            refine AQ.ret1 rfl rfl ?_
            refine ⟨_, rows, _, [_, _], 0, hle, rfl, hst, ⟨bM, oM, rfl, hm, hnd, hrows, ?_⟩, ?_⟩
            · split
              · exact hnok
              · exact hnx
            · unfold Ap
              rw [hav, if_neg h28, if_pos h42, if_neg h50, if_pos h56, hnn]
              exact ⟨rfl, rfl, rfl⟩
          · have hcb56 := hc56
            try simp only [decide_eq_true_eq, decide_eq_false_iff_not] at hc56
            have h56 : wordOf av ≠ nextL := by
              rw [hwl]
              have := hcb56
              rw [show (ByteArray.mk #[110, 101, 120, 116]).toList = nextL from litLB _] at this
              exact fun e => absurd ((beq_iff_eq (b := nextL)).2 e) (by intro h; exact absurd (h.symm.trans this) (by decide))
            refine CW.seq ?_
            -- region 4
            refine CW.region ?_
            refine RW.op1 rfl (runs_assign rfl) ?_
            refine RW.done ?_
            refine AQ.next ?_
            refine CW.ret ?_
            refine AQ.block_ret ?_
            refine AQ.past_ret ?_
            refine AQ.ret1 rfl rfl ?_
            refine ⟨_, rows, next, Lt, 2, hle, rfl, hst, hd, ?_⟩
            unfold Ap
            rw [hav, if_neg h28, if_pos h42, if_neg h50, if_neg h56]
            exact ⟨rfl, rfl, rfl⟩
end Go.Proofs.YtlmmpcdjkpibcaaX
