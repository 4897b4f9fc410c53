/- Parts of a proof, joined: walks through the program's functions and their laws, in the order in which they need each other. -/
import Derived.Test.YtlmmpcdjkpibcaaPKb
import Derived.Test.YtlmmpcdjkpibcaaPKk
namespace Go.Proofs.YtlmmpcdjkpibcaaX
set_option linter.unusedVariables false
set_option linter.unusedSimpArgs false
open Go Go.RowKit Go.Proofs
theorem St.gen0 {w0 w : World} {I : Imm} {L : Own} {b : Nat} {o : Obj} (h : St w0 w I ((b, o) :: L)) : ∃ o', o' = o ∧ St w0 w I ((b, o') :: L) := ⟨o, rfl, h⟩
theorem St.retype {w0 w : World} {I : Imm} {L L' : Own} (h : St w0 w I L) (e : L = L') : St w0 w I L' := e ▸ h
structure ItSm (it : It) : Prop where
  id : -1000 ≤ it.id ∧ it.id ≤ 1000
  kind : -1000 ≤ it.kind ∧ it.kind ≤ 1000
  group : -1000 ≤ it.group ∧ it.group ≤ 1000
  mode : -1000 ≤ it.mode ∧ it.mode ≤ 1000
  creds : -1000 ≤ it.creds ∧ it.creds ≤ 1000
  refer : -1000 ≤ it.refer ∧ it.refer ≤ 1000
  hops : -1000 ≤ it.hops ∧ it.hops ≤ 1000
  tries : -1000 ≤ it.tries ∧ it.tries ≤ 1000
  til : -1000 ≤ it.til ∧ it.til ≤ 1000
  state : -1000 ≤ it.state ∧ it.state ≤ 1000
  code : -1000 ≤ it.code ∧ it.code ≤ 1000
  name : it.name.size ≤ 60
  method : it.method.size ≤ 60
  url : it.url.size ≤ 60
  body : it.body.size ≤ 60
  page : it.page.size ≤ 60
  csp : it.csp.size ≤ 60
  nurl : it.nurl.size ≤ 60
  nmethod : it.nmethod.size ≤ 60
  nbody : it.nbody.size ≤ 60
  got : it.got.size ≤ 60
  tag : it.tag.size ≤ 60
  len : it.heads.length ≤ 4
  hs : ∀ r ∈ it.heads, r.1.size ≤ 20 ∧ r.2.size ≤ 20
theorem ItSm.ok {it : It} (h : ItSm it) : ItOk it := by
  refine ⟨?_, ?_, ?_, ?_, ?_, ?_, ?_, ?_, ?_, ?_, ?_, by have := h.len; omega⟩
  all_goals unfold i64ok
  · have := h.id; omega
  · have := h.kind; omega
  · have := h.group; omega
  · have := h.mode; omega
  · have := h.creds; omega
  · have := h.refer; omega
  · have := h.hops; omega
  · have := h.tries; omega
  · have := h.til; omega
  · have := h.state; omega
  · have := h.code; omega
theorem hAV_enc {hs : List HRow} (h : ∀ r ∈ hs, r.1.size ≤ 20 ∧ r.2.size ≤ 20) : (hAV hs).all enc1Ok = true := by
  rw [List.all_eq_true]
  intro a ha
  unfold hAV at ha
  obtain ⟨r, hr, h2⟩ := List.mem_flatMap.1 ha
  have h3 := h r hr
  simp only [List.mem_cons, List.not_mem_nil, or_false] at h2
  rcases h2 with rfl | rfl <;> (simp only [enc1Ok, decide_eq_true_eq]; omega)
theorem ItSm.enc {it : It} (h : ItSm it) : encOk (itAV it) = true := by
  unfold encOk itAV headAV tailAV
  rw [List.all_append, List.all_append, hAV_enc h.hs]
  have h_name := h.name
  have h_method := h.method
  have h_url := h.url
  have h_body := h.body
  have h_page := h.page
  have h_csp := h.csp
  have h_nurl := h.nurl
  have h_nmethod := h.nmethod
  have h_nbody := h.nbody
  have h_got := h.got
  have h_tag := h.tag
  simp [enc1Ok]
  omega
set_option maxRecDepth 100000 in
set_option maxHeartbeats 8000000 in
theorem item_spec {w0 w : World} {I : Imm} {L : Own} (hst : St w0 w I L) (n m how got : Int) (hn : i64ok n) (hm : i64ok m) (hhow : i64ok how) (hgot : i64ok got) :
    Calls Try.prog 19 #[.int .i64 n, .int .i64 m, .int .i64 how, .string (ByteArray.mk #[]), .int .i64 got] w fun e w' => ∃ I' it vh, I.le I' ∧ e = .returned (itv it vh) ∧ St w0 w' I' L ∧ RdH I' vh it.heads ∧ ItSm it ∧ it.id = 1 + within how 9 := by
  obtain ⟨WID, hWID⟩ : ∃ z, z = 1 + within how 9 := ⟨_, rfl⟩
  refine enter Try.func19 rfl (N := 209) rfl rfl ?_
  simp only [List.zipIdx_cons, List.zipIdx_nil, List.map_cons, List.map_nil, Nat.zero_add, Nat.reduceAdd]
  have hle := Imm.le.refl I
  refine CW.seq ?_
  refine CW.region ?_
  refine RW.opE rfl (runs_alloc ti36 hst) ?_
  rintro _ w ⟨b1, rfl, hstn⟩
  clear hst
  have hst := hstn
  clear hstn
  obtain ⟨OZ, hOZ, hstn⟩ := St.gen0 hst
  clear hst
  have hst := hstn
  clear hstn
  refine RW.done ?_
  refine AQ.next ?_
  refine CW.seq ?_
  refine CW.region ?_
  refine RW.op1 rfl (runs_assign rfl) ?_
  refine RW.done ?_
  refine AQ.next ?_
  refine CW.seq ?_
  refine CW.region ?_
  refine RW.op1 rfl (runs_move rfl) ?_
  refine RW.call rfl call32 rfl rfl (url_spec18 hst n hn) ?_
  rintro e w ⟨J22, pg, hJ22, rfl, hpgz, hstn⟩
  clear hst
  have hst := hstn
  clear hstn
  replace hle := hle.trans hJ22
  refine ⟨_, rfl, ?_⟩
  refine RW.op1 rfl (runs_move rfl) ?_
  refine RW.op1 rfl (runs_move rfl) ?_
  refine RW.op1 rfl (runs_quo rfl rfl (by decide)) ?_
  obtain ⟨q12, hq12⟩ : ∃ q, IntKind.i64.wrap (n.tdiv 12) = q := ⟨_, rfl⟩
  have hq12o : i64ok q12 := by rw [← hq12]; exact wrap_ok _
  rw [hq12]
  refine RW.call rfl call8 rfl rfl (within_spec hst (v := q12) (n := 3) (hq12o) (by unfold i64ok; decide)) ?_
  rintro e w ⟨rfl, hstn⟩
  clear hst
  have hst := hstn
  clear hstn
  have rc12 := within_range q12 3
  have rc12t := rc12.2 (by decide)
  obtain ⟨c12, hc12⟩ : ∃ z, within q12 3 = z := ⟨_, rfl⟩
  rw [hc12] at rc12 rc12t ⊢
  obtain ⟨k12, hk12⟩ : ∃ k : Nat, c12 = (k : Int) := ⟨c12.toNat, by omega⟩
  rw [hk12] at rc12 rc12t ⊢
  refine ⟨_, rfl, ?_⟩
  refine RW.call rfl call33 rfl rfl (list_spec18 hst k12 (by omega)) ?_
  rintro e w ⟨J27, csp, hJ27, rfl, hcsp, hstn⟩
  clear hst
  have hst := hstn
  clear hstn
  replace hle := hle.trans hJ27
  refine ⟨_, rfl, ?_⟩
  refine RW.op1 rfl (runs_move rfl) ?_
  refine RW.op1 rfl (runs_move rfl) ?_
  refine RW.op1 rfl (runs_quo rfl rfl (by decide)) ?_
  obtain ⟨q36, hq36⟩ : ∃ q, IntKind.i64.wrap (n.tdiv 36) = q := ⟨_, rfl⟩
  have hq36o : i64ok q36 := by rw [← hq36]; exact wrap_ok _
  rw [hq36]
  refine RW.call rfl call8 rfl rfl (within_spec hst (v := q36) (n := 6) (hq36o) (by unfold i64ok; decide)) ?_
  rintro e w ⟨rfl, hstn⟩
  clear hst
  have hst := hstn
  clear hstn
  have rc36 := within_range q36 6
  have rc36t := rc36.2 (by decide)
  obtain ⟨c36, hc36⟩ : ∃ z, within q36 6 = z := ⟨_, rfl⟩
  rw [hc36] at rc36 rc36t ⊢
  refine ⟨_, rfl, ?_⟩
  refine RW.op1 rfl (runs_add rfl rfl (by omega)) ?_
  obtain ⟨rf, hrf⟩ : ∃ z, 1 + c36 = z := ⟨_, rfl⟩
  rw [hrf]
  refine RW.op1 rfl (runs_buildF (cells := [_, _, _]) bz34 rfl rfl rfl rfl rfl) ?_
  refine RW.opE rfl (runs_alloc ti34 hst) ?_
  rintro _ w ⟨b6, rfl, hstn⟩
  clear hst
  have hst := hstn
  clear hstn
  obtain ⟨bp, hbp⟩ : ∃ b, b = b6 := ⟨_, rfl⟩
  subst hbp
  first
    | refine RW.opE0 (runs_storeW ti34 rfl rfl hst (k := 0) rfl rfl rfl (NoFz.zero _) rfl) ?_
    | refine RW.opE0 (runs_storeP ti34 rfl rfl hst (k := 0) rfl rfl rfl (NoFz.zero _) rfl) ?_
    | refine RW.opE0 (runs_storeW ti34 rfl rfl hst (k := 1) rfl rfl rfl (NoFz.zero _) rfl) ?_
    | refine RW.opE0 (runs_storeP ti34 rfl rfl hst (k := 1) rfl rfl rfl (NoFz.zero _) rfl) ?_
    | refine RW.opE0 (runs_storeW ti34 rfl rfl hst (k := 2) rfl rfl rfl (NoFz.zero _) rfl) ?_
    | refine RW.opE0 (runs_storeP ti34 rfl rfl hst (k := 2) rfl rfl rfl (NoFz.zero _) rfl) ?_
  rintro w hstn
  clear hst
  have hst := hstn
  clear hstn
  try simp only [List.set_cons_zero, List.set_cons_succ] at hst
  refine RW.done ?_
  refine AQ.next ?_
  refine CW.seq ?_
  refine CW.region ?_
  refine RW.op1 rfl (runs_move rfl) ?_
  refine RW.call rfl call34 rfl rfl (req_spec hst m hm) ?_
  rintro e w ⟨J35, me, ur, vh, hs, bo, mo, cr, hJ35, rfl, hstn, hH, hok⟩
  clear hst
  have hst := hstn
  clear hstn
  replace hle := hle.trans hJ35
  refine ⟨_, rfl, ?_⟩
  refine RW.opE rfl (runs_alloc ti32 hst) ?_
  rintro _ w ⟨b9, rfl, hstn⟩
  clear hst
  have hst := hstn
  clear hstn
  obtain ⟨bq, hbq⟩ : ∃ b, b = b9 := ⟨_, rfl⟩
  subst hbq
  refine RW.opE0 (runs_storeW ti32 rfl rfl hst (k := 0) rfl rfl rfl (NoFz.zero _) (req_one hH.one)) ?_
  rintro w hstn
  clear hst
  have hst := hstn
  clear hstn
  try simp only [List.set_cons_zero, List.set_cons_succ] at hst
  refine RW.done ?_
  refine AQ.next ?_
  refine CW.seq ?_
  refine CW.seq ?_
  refine CW.region ?_
  refine RW.op1 rfl (runs_assign rfl) ?_
  refine RW.done ?_
  refine AQ.next ?_
  refine CW.cut (Imm × ByteArray × ByteArray × Value × List HRow × ByteArray × Int × Int) (fun y w => I.le y.1 ∧ St w0 w y.1 ((bq, .cells #[.string y.2.1, .string y.2.2.1, y.2.2.2.1, .string y.2.2.2.2.2.1, .int .i64 y.2.2.2.2.2.2.1, .int .i64 y.2.2.2.2.2.2.2] 32) :: (bp, .cells #[.string pg, .string csp, .int .i64 rf] 34) :: (b1, OZ) :: L) ∧ RdH y.1 y.2.2.2.1 y.2.2.2.2.1 ∧ ReqOk y.2.1 y.2.2.1 y.2.2.2.2.1 y.2.2.2.2.2.1 y.2.2.2.2.2.2.1 y.2.2.2.2.2.2.2) (fun y => [(0, .int .i64 n), (1, .int .i64 m), (2, .int .i64 how), (4, .int .i64 got), (10, .pointer (some ⟨b1, 0, none⟩)), (11, .func (.func 8) #[] #[]), (12, .pointer (some ⟨bp, 0, none⟩)), (13, .pointer (some ⟨bq, 0, none⟩))]) ?_ ?_
  · refine CW.block ?_
    refine CW.loop (Nat × Imm × ByteArray × ByteArray × Value × List HRow × ByteArray × Int × Int) (fun x w => x.1 ≤ 6 ∧ I.le x.2.1 ∧ St w0 w x.2.1 ((bq, .cells #[.string x.2.2.1, .string x.2.2.2.1, x.2.2.2.2.1, .string x.2.2.2.2.2.2.1, .int .i64 x.2.2.2.2.2.2.2.1, .int .i64 x.2.2.2.2.2.2.2.2] 32) :: (bp, .cells #[.string pg, .string csp, .int .i64 rf] 34) :: (b1, OZ) :: L) ∧ RdH x.2.1 x.2.2.2.2.1 x.2.2.2.2.2.1 ∧ ReqOk x.2.2.1 x.2.2.2.1 x.2.2.2.2.2.1 x.2.2.2.2.2.2.1 x.2.2.2.2.2.2.2.1 x.2.2.2.2.2.2.2.2) (fun x => [(0, .int .i64 n), (1, .int .i64 m), (2, .int .i64 how), (4, .int .i64 got), (10, .pointer (some ⟨b1, 0, none⟩)), (11, .func (.func 8) #[] #[]), (12, .pointer (some ⟨bp, 0, none⟩)), (13, .pointer (some ⟨bq, 0, none⟩)), (14, .int .i64 (x.1 : Int))]) (fun x => 6 - x.1) ⟨(0, _, me, ur, vh, hs, bo, mo, cr), ⟨Nat.zero_le _, hle, hst, hH, hok⟩, ⟨rfl, rfl, rfl, rfl, rfl, rfl, rfl, rfl, rfl, trivial⟩⟩ ?_
    clear hle hst hH hok
    rintro ⟨k, J, me, ur, vh, hs, bo, mo, cr⟩ w ⟨hk, hle, hstn, hH, hok⟩
    dsimp only at hk hle hstn hH hok ⊢
    have hst := hstn
    clear hstn
    refine CW.seq ?_
    refine CW.seq ?_
    refine CW.region ?_
    refine RW.op1 rfl (runs_move rfl) ?_
    refine RW.op1 rfl (runs_lss rfl rfl) ?_
    refine RW.done ?_
    refine AQ.next ?_
    refine CW.cond rfl (fun hc37 => ?_) (fun hc37 => ?_)
    · have hcb37 := hc37
      try simp only [decide_eq_true_eq, decide_eq_false_iff_not] at hc37
      have hk6 : k < 6 := by omega
      refine CW.skip ?_
      refine AQ.next ?_
      refine CW.seq ?_
      refine CW.block ?_
      refine CW.seq ?_
      refine CW.seq ?_
      refine CW.region ?_
      first
        | refine RW.op1 rfl (runs_fieldAddr0 rfl Try.underlying32 rfl ti9 (by decide)) ?_
        | refine RW.op1 rfl (runs_fieldAddr rfl Try.underlying32 rfl ti9 (by decide)) ?_
      first
        | refine RW.op1 rfl (runs_load1 sc9 rfl (hst.cell_own (k := 0) rfl rfl)) ?_
        | refine RW.op1 rfl (runs_load1 sc9 rfl (hst.cell_own (k := 1) rfl rfl)) ?_
        | refine RW.op1 rfl (runs_load1 sc9 rfl (hst.cell_own (k := 2) rfl rfl)) ?_
      refine RW.call rfl call35 rfl rfl (parse_spec hst ur (by have := hok.ur; omega)) ?_
      rintro e w ⟨J43, sc, ho, po, pa, qu, ok, hJ43, rfl, hstn, hz, hpz⟩
      clear hst
      have hst := hstn
      clear hstn
      replace hH := hH.mono hJ43
      replace hle := hle.trans hJ43
      refine ⟨_, rfl, ?_⟩
      refine RW.op1 rfl (runs_move rfl) ?_
      refine RW.op1 rfl (runs_extract rfl rfl) ?_
      refine RW.op1 rfl (runs_extract rfl rfl) ?_
      refine RW.opE rfl (runs_alloc ti84 hst) ?_
      rintro _ w ⟨b12, rfl, hstn⟩
      clear hst
      have hst := hstn
      clear hstn
      obtain ⟨bu, hbu⟩ : ∃ b, b = b12 := ⟨_, rfl⟩
      subst hbu
      first
        | refine RW.opE0 (runs_storeW ti84 rfl rfl hst (k := 0) rfl rfl rfl (NoFz.zero _) rfl) ?_
        | refine RW.opE0 (runs_storeP ti84 rfl rfl hst (k := 0) rfl rfl rfl (NoFz.zero _) rfl) ?_
        | refine RW.opE0 (runs_storeW ti84 rfl rfl hst (k := 1) rfl rfl rfl (NoFz.zero _) rfl) ?_
        | refine RW.opE0 (runs_storeP ti84 rfl rfl hst (k := 1) rfl rfl rfl (NoFz.zero _) rfl) ?_
        | refine RW.opE0 (runs_storeW ti84 rfl rfl hst (k := 2) rfl rfl rfl (NoFz.zero _) rfl) ?_
        | refine RW.opE0 (runs_storeP ti84 rfl rfl hst (k := 2) rfl rfl rfl (NoFz.zero _) rfl) ?_
      rintro w hstn
      clear hst
      have hst := hstn
      clear hstn
      try simp only [List.set_cons_zero, List.set_cons_succ] at hst
      refine RW.op1 rfl (runs_assign rfl) ?_
      refine RW.done ?_
      refine AQ.next ?_
      refine CW.seq ?_
      refine CW.cut (Imm × Bool) (fun y w => I.le y.1 ∧ St w0 w y.1 ((bu, .cells #[.string sc, .string ho, .int .i64 po, .string pa, .string qu] 84) :: (bq, .cells #[.string me, .string ur, vh, .string bo, .int .i64 mo, .int .i64 cr] 32) :: (bp, .cells #[.string pg, .string csp, .int .i64 rf] 34) :: (b1, OZ) :: L) ∧ RdH y.1 vh hs) (fun y => [(0, .int .i64 n), (1, .int .i64 m), (2, .int .i64 how), (4, .int .i64 got), (10, .pointer (some ⟨b1, 0, none⟩)), (11, .func (.func 8) #[] #[]), (12, .pointer (some ⟨bp, 0, none⟩)), (13, .pointer (some ⟨bq, 0, none⟩)), (14, .int .i64 (k : Int)), (97, .bool y.2)]) ?_ ?_
      ·
        refine CW.region ?_
        refine RW.op1 rfl (runs_move rfl) ?_
        refine RW.op1 rfl (runs_move rfl) ?_
        refine RW.split (t := 47) rfl (fun hb47 => ?_) (fun hb47 => ?_)
        · have hb47p := hb47
          try simp only [decide_eq_true_eq, decide_eq_false_iff_not] at hb47p
          refine RW.on_guard rfl rfl rfl rfl hb47 ?_
          first
            | refine RW.op1 rfl (runs_fieldAddr0 rfl Try.underlying32 rfl ti9 (by decide)) ?_
            | refine RW.op1 rfl (runs_fieldAddr rfl Try.underlying32 rfl ti9 (by decide)) ?_
          refine RW.on_guard rfl rfl rfl rfl hb47 ?_
          first
            | refine RW.op1 rfl (runs_load1 sc9 rfl (hst.cell_own (k := 0) rfl rfl)) ?_
            | refine RW.op1 rfl (runs_load1 sc9 rfl (hst.cell_own (k := 1) rfl rfl)) ?_
            | refine RW.op1 rfl (runs_load1 sc9 rfl (hst.cell_own (k := 2) rfl rfl)) ?_
          refine RW.on_guard rfl rfl rfl rfl hb47 ?_
          refine RW.op1 rfl (runs_eqS rfl rfl) ?_
          refine RW.on_guard rfl rfl rfl rfl hb47 ?_
          refine RW.op1 rfl (runs_move rfl) ?_
          refine RW.split (t := 51) rfl (fun hb51 => ?_) (fun hb51 => ?_)
          · have hb51p := hb51
            try simp only [decide_eq_true_eq, decide_eq_false_iff_not] at hb51p
            refine RW.off_guard rfl rfl rfl rfl hb51 ?_
            refine RW.off_guard rfl rfl rfl rfl hb51 ?_
            refine RW.off_guard rfl rfl rfl rfl hb51 ?_
            refine RW.on_guard rfl rfl rfl rfl hb47 ?_
            refine RW.op1 rfl (runs_pick_true rfl hb51 rfl) ?_
            refine RW.on_guard rfl rfl rfl rfl hb47 ?_
            refine RW.op1 rfl (runs_move rfl) ?_
            refine RW.off_guard rfl rfl rfl rfl rfl ?_
            refine RW.off_guard rfl rfl rfl rfl rfl ?_
            refine RW.off_guard rfl rfl rfl rfl rfl ?_
            refine RW.on_guard rfl rfl rfl rfl hb47 ?_
            refine RW.op1 rfl (runs_pick_true rfl rfl rfl) ?_
            refine RW.on_guard rfl rfl rfl rfl hb47 ?_
            refine RW.op1 rfl (runs_move rfl) ?_
            refine RW.off_guard rfl rfl rfl rfl rfl ?_
            refine RW.off_guard rfl rfl rfl rfl rfl ?_
            refine RW.off_guard rfl rfl rfl rfl rfl ?_
            refine RW.on_guard rfl rfl rfl rfl hb47 ?_
            refine RW.op1 rfl (runs_pick_true rfl rfl rfl) ?_
            refine RW.on_guard rfl rfl rfl rfl hb47 ?_
            refine RW.op1 rfl (runs_move rfl) ?_
            refine RW.off_guard rfl rfl rfl rfl rfl ?_
            refine RW.off_guard rfl rfl rfl rfl rfl ?_
            refine RW.off_guard rfl rfl rfl rfl rfl ?_
            refine RW.on_guard rfl rfl rfl rfl hb47 ?_
            refine RW.op1 rfl (runs_pick_true rfl rfl rfl) ?_
            refine RW.op1 rfl (runs_pick_true rfl hb47 rfl) ?_
            refine RW.op1 rfl (runs_move rfl) ?_
            refine RW.on_guard rfl rfl rfl rfl rfl ?_
            first
              | refine RW.op1 rfl (runs_fieldAddr0 rfl Try.underlying32 rfl ti30 (by decide)) ?_
              | refine RW.op1 rfl (runs_fieldAddr rfl Try.underlying32 rfl ti30 (by decide)) ?_
            refine RW.on_guard rfl rfl rfl rfl rfl ?_
            first
              | refine RW.op1 rfl (runs_load1 sc30 rfl (hst.cell_own (k := 0) rfl rfl)) ?_
              | refine RW.op1 rfl (runs_load1 sc30 rfl (hst.cell_own (k := 1) rfl rfl)) ?_
              | refine RW.op1 rfl (runs_load1 sc30 rfl (hst.cell_own (k := 2) rfl rfl)) ?_
            refine RW.on_guard rfl rfl rfl rfl rfl ?_
            refine RW.call rfl call36 rfl rfl (checkheads_spec hst hH (fun r hr => by have := hok.hs r hr; omega)) ?_
            rintro e w ⟨J75, en, hJ75, rfl, hstn⟩
            clear hst
            have hst := hstn
            clear hstn
            replace hH := hH.mono hJ75
            replace hle := hle.trans hJ75
            refine ⟨_, rfl, ?_⟩
            refine RW.on_guard rfl rfl rfl rfl rfl ?_
            refine RW.op1 rfl (runs_eqI rfl rfl) ?_
            refine RW.op1 rfl (runs_pick_true rfl rfl rfl) ?_
            refine RW.op1 rfl (runs_move rfl) ?_
            refine RW.split (t := 78) rfl (fun hb78 => ?_) (fun hb78 => ?_)
            · have hb78p := hb78
              try simp only [decide_eq_true_eq, decide_eq_false_iff_not] at hb78p
              refine RW.on_guard rfl rfl rfl rfl hb78 ?_
              first
                | refine RW.op1 rfl (runs_fieldAddr0 rfl Try.underlying32 rfl ti3 (by decide)) ?_
                | refine RW.op1 rfl (runs_fieldAddr rfl Try.underlying32 rfl ti3 (by decide)) ?_
              refine RW.on_guard rfl rfl rfl rfl hb78 ?_
              first
                | refine RW.op1 rfl (runs_load1 sc3 rfl (hst.cell_own (k := 0) rfl rfl)) ?_
                | refine RW.op1 rfl (runs_load1 sc3 rfl (hst.cell_own (k := 1) rfl rfl)) ?_
                | refine RW.op1 rfl (runs_load1 sc3 rfl (hst.cell_own (k := 2) rfl rfl)) ?_
              refine RW.on_guard rfl rfl rfl rfl hb78 ?_
              refine RW.op1 rfl (runs_geq rfl rfl) ?_
              refine RW.op1 rfl (runs_pick_true rfl hb78 rfl) ?_
              refine RW.op1 rfl (runs_move rfl) ?_
              refine RW.split (t := 83) rfl (fun hb83 => ?_) (fun hb83 => ?_)
              · have hb83p := hb83
                try simp only [decide_eq_true_eq, decide_eq_false_iff_not] at hb83p
                refine RW.on_guard rfl rfl rfl rfl hb83 ?_
                first
                  | refine RW.op1 rfl (runs_fieldAddr0 rfl Try.underlying32 rfl ti3 (by decide)) ?_
                  | refine RW.op1 rfl (runs_fieldAddr rfl Try.underlying32 rfl ti3 (by decide)) ?_
                refine RW.on_guard rfl rfl rfl rfl hb83 ?_
                first
                  | refine RW.op1 rfl (runs_load1 sc3 rfl (hst.cell_own (k := 0) rfl rfl)) ?_
                  | refine RW.op1 rfl (runs_load1 sc3 rfl (hst.cell_own (k := 1) rfl rfl)) ?_
                  | refine RW.op1 rfl (runs_load1 sc3 rfl (hst.cell_own (k := 2) rfl rfl)) ?_
                refine RW.on_guard rfl rfl rfl rfl hb83 ?_
                refine RW.op1 rfl (runs_leq rfl rfl) ?_
                refine RW.op1 rfl (runs_pick_true rfl hb83 rfl) ?_
                refine RW.op1 rfl (runs_move rfl) ?_
                refine RW.split (t := 88) rfl (fun hb88 => ?_) (fun hb88 => ?_)
                · have hb88p := hb88
                  try simp only [decide_eq_true_eq, decide_eq_false_iff_not] at hb88p
                  refine RW.on_guard rfl rfl rfl rfl hb88 ?_
                  first
                    | refine RW.op1 rfl (runs_fieldAddr0 rfl Try.underlying32 rfl ti3 (by decide)) ?_
                    | refine RW.op1 rfl (runs_fieldAddr rfl Try.underlying32 rfl ti3 (by decide)) ?_
                  refine RW.on_guard rfl rfl rfl rfl hb88 ?_
                  first
                    | refine RW.op1 rfl (runs_load1 sc3 rfl (hst.cell_own (k := 0) rfl rfl)) ?_
                    | refine RW.op1 rfl (runs_load1 sc3 rfl (hst.cell_own (k := 1) rfl rfl)) ?_
                    | refine RW.op1 rfl (runs_load1 sc3 rfl (hst.cell_own (k := 2) rfl rfl)) ?_
                  refine RW.on_guard rfl rfl rfl rfl hb88 ?_
                  refine RW.op1 rfl (runs_geq rfl rfl) ?_
                  refine RW.op1 rfl (runs_pick_true rfl hb88 rfl) ?_
                  refine RW.op1 rfl (runs_move rfl) ?_
                  refine RW.split (t := 93) rfl (fun hb93 => ?_) (fun hb93 => ?_)
                  · have hb93p := hb93
                    try simp only [decide_eq_true_eq, decide_eq_false_iff_not] at hb93p
                    refine RW.on_guard rfl rfl rfl rfl hb93 ?_
                    first
                      | refine RW.op1 rfl (runs_fieldAddr0 rfl Try.underlying32 rfl ti3 (by decide)) ?_
                      | refine RW.op1 rfl (runs_fieldAddr rfl Try.underlying32 rfl ti3 (by decide)) ?_
                    refine RW.on_guard rfl rfl rfl rfl hb93 ?_
                    first
                      | refine RW.op1 rfl (runs_load1 sc3 rfl (hst.cell_own (k := 0) rfl rfl)) ?_
                      | refine RW.op1 rfl (runs_load1 sc3 rfl (hst.cell_own (k := 1) rfl rfl)) ?_
                      | refine RW.op1 rfl (runs_load1 sc3 rfl (hst.cell_own (k := 2) rfl rfl)) ?_
                    refine RW.on_guard rfl rfl rfl rfl hb93 ?_
                    refine RW.op1 rfl (runs_leq rfl rfl) ?_
                    refine RW.op1 rfl (runs_pick_true rfl hb93 rfl) ?_
                    refine RW.done ?_
                    exact AQ.meet (_, (_ : Bool)) ⟨hle, hst, hH⟩ ⟨rfl, rfl, rfl, rfl, rfl, rfl, rfl, rfl, rfl, rfl, trivial⟩
                  · have hb93p := hb93
                    try simp only [decide_eq_true_eq, decide_eq_false_iff_not] at hb93p
                    refine RW.off_guard rfl rfl rfl rfl hb93 ?_
                    refine RW.off_guard rfl rfl rfl rfl hb93 ?_
                    refine RW.off_guard rfl rfl rfl rfl hb93 ?_
                    refine RW.op1 rfl (runs_pick_false rfl hb93 rfl) ?_
                    refine RW.done ?_
                    exact AQ.meet (_, (_ : Bool)) ⟨hle, hst, hH⟩ ⟨rfl, rfl, rfl, rfl, rfl, rfl, rfl, rfl, rfl, rfl, trivial⟩
                · have hb88p := hb88
                  try simp only [decide_eq_true_eq, decide_eq_false_iff_not] at hb88p
                  refine RW.off_guard rfl rfl rfl rfl hb88 ?_
                  refine RW.off_guard rfl rfl rfl rfl hb88 ?_
                  refine RW.off_guard rfl rfl rfl rfl hb88 ?_
                  refine RW.op1 rfl (runs_pick_false rfl hb88 rfl) ?_
                  refine RW.op1 rfl (runs_move rfl) ?_
                  refine RW.off_guard rfl rfl rfl rfl rfl ?_
                  refine RW.off_guard rfl rfl rfl rfl rfl ?_
                  refine RW.off_guard rfl rfl rfl rfl rfl ?_
                  refine RW.op1 rfl (runs_pick_false rfl rfl rfl) ?_
                  refine RW.done ?_
                  exact AQ.meet (_, (_ : Bool)) ⟨hle, hst, hH⟩ ⟨rfl, rfl, rfl, rfl, rfl, rfl, rfl, rfl, rfl, rfl, trivial⟩
              · have hb83p := hb83
                try simp only [decide_eq_true_eq, decide_eq_false_iff_not] at hb83p
                refine RW.off_guard rfl rfl rfl rfl hb83 ?_
                refine RW.off_guard rfl rfl rfl rfl hb83 ?_
                refine RW.off_guard rfl rfl rfl rfl hb83 ?_
                refine RW.op1 rfl (runs_pick_false rfl hb83 rfl) ?_
                refine RW.op1 rfl (runs_move rfl) ?_
                refine RW.off_guard rfl rfl rfl rfl rfl ?_
                refine RW.off_guard rfl rfl rfl rfl rfl ?_
                refine RW.off_guard rfl rfl rfl rfl rfl ?_
                refine RW.op1 rfl (runs_pick_false rfl rfl rfl) ?_
                refine RW.op1 rfl (runs_move rfl) ?_
                refine RW.off_guard rfl rfl rfl rfl rfl ?_
                refine RW.off_guard rfl rfl rfl rfl rfl ?_
                refine RW.off_guard rfl rfl rfl rfl rfl ?_
                refine RW.op1 rfl (runs_pick_false rfl rfl rfl) ?_
                refine RW.done ?_
                exact AQ.meet (_, (_ : Bool)) ⟨hle, hst, hH⟩ ⟨rfl, rfl, rfl, rfl, rfl, rfl, rfl, rfl, rfl, rfl, trivial⟩
            · have hb78p := hb78
              try simp only [decide_eq_true_eq, decide_eq_false_iff_not] at hb78p
              refine RW.off_guard rfl rfl rfl rfl hb78 ?_
              refine RW.off_guard rfl rfl rfl rfl hb78 ?_
              refine RW.off_guard rfl rfl rfl rfl hb78 ?_
              refine RW.op1 rfl (runs_pick_false rfl hb78 rfl) ?_
              refine RW.op1 rfl (runs_move rfl) ?_
              refine RW.off_guard rfl rfl rfl rfl rfl ?_
              refine RW.off_guard rfl rfl rfl rfl rfl ?_
              refine RW.off_guard rfl rfl rfl rfl rfl ?_
              refine RW.op1 rfl (runs_pick_false rfl rfl rfl) ?_
              refine RW.op1 rfl (runs_move rfl) ?_
              refine RW.off_guard rfl rfl rfl rfl rfl ?_
              refine RW.off_guard rfl rfl rfl rfl rfl ?_
              refine RW.off_guard rfl rfl rfl rfl rfl ?_
              refine RW.op1 rfl (runs_pick_false rfl rfl rfl) ?_
              refine RW.op1 rfl (runs_move rfl) ?_
              refine RW.off_guard rfl rfl rfl rfl rfl ?_
              refine RW.off_guard rfl rfl rfl rfl rfl ?_
              refine RW.off_guard rfl rfl rfl rfl rfl ?_
              refine RW.op1 rfl (runs_pick_false rfl rfl rfl) ?_
              refine RW.done ?_
              exact AQ.meet (_, (_ : Bool)) ⟨hle, hst, hH⟩ ⟨rfl, rfl, rfl, rfl, rfl, rfl, rfl, rfl, rfl, rfl, trivial⟩
          · have hb51p := hb51
            try simp only [decide_eq_true_eq, decide_eq_false_iff_not] at hb51p
            refine RW.on_guard rfl rfl rfl rfl hb51 ?_
            first
              | refine RW.op1 rfl (runs_fieldAddr0 rfl Try.underlying32 rfl ti9 (by decide)) ?_
              | refine RW.op1 rfl (runs_fieldAddr rfl Try.underlying32 rfl ti9 (by decide)) ?_
            refine RW.on_guard rfl rfl rfl rfl hb51 ?_
            first
              | refine RW.op1 rfl (runs_load1 sc9 rfl (hst.cell_own (k := 0) rfl rfl)) ?_
              | refine RW.op1 rfl (runs_load1 sc9 rfl (hst.cell_own (k := 1) rfl rfl)) ?_
              | refine RW.op1 rfl (runs_load1 sc9 rfl (hst.cell_own (k := 2) rfl rfl)) ?_
            refine RW.on_guard rfl rfl rfl rfl hb51 ?_
            refine RW.op1 rfl (runs_eqS rfl rfl) ?_
            refine RW.on_guard rfl rfl rfl rfl hb47 ?_
            refine RW.op1 rfl (runs_pick_false rfl hb51 rfl) ?_
            refine RW.on_guard rfl rfl rfl rfl hb47 ?_
            refine RW.op1 rfl (runs_move rfl) ?_
            refine RW.split (t := 56) rfl (fun hb56 => ?_) (fun hb56 => ?_)
            · have hb56p := hb56
              try simp only [decide_eq_true_eq, decide_eq_false_iff_not] at hb56p
              refine RW.off_guard rfl rfl rfl rfl hb56 ?_
              refine RW.off_guard rfl rfl rfl rfl hb56 ?_
              refine RW.off_guard rfl rfl rfl rfl hb56 ?_
              refine RW.on_guard rfl rfl rfl rfl hb47 ?_
              refine RW.op1 rfl (runs_pick_true rfl hb56 rfl) ?_
              refine RW.on_guard rfl rfl rfl rfl hb47 ?_
              refine RW.op1 rfl (runs_move rfl) ?_
              refine RW.off_guard rfl rfl rfl rfl rfl ?_
              refine RW.off_guard rfl rfl rfl rfl rfl ?_
              refine RW.off_guard rfl rfl rfl rfl rfl ?_
              refine RW.on_guard rfl rfl rfl rfl hb47 ?_
              refine RW.op1 rfl (runs_pick_true rfl rfl rfl) ?_
              refine RW.on_guard rfl rfl rfl rfl hb47 ?_
              refine RW.op1 rfl (runs_move rfl) ?_
              refine RW.off_guard rfl rfl rfl rfl rfl ?_
              refine RW.off_guard rfl rfl rfl rfl rfl ?_
              refine RW.off_guard rfl rfl rfl rfl rfl ?_
              refine RW.on_guard rfl rfl rfl rfl hb47 ?_
              refine RW.op1 rfl (runs_pick_true rfl rfl rfl) ?_
              refine RW.op1 rfl (runs_pick_true rfl hb47 rfl) ?_
              refine RW.op1 rfl (runs_move rfl) ?_
              refine RW.on_guard rfl rfl rfl rfl rfl ?_
              first
                | refine RW.op1 rfl (runs_fieldAddr0 rfl Try.underlying32 rfl ti30 (by decide)) ?_
                | refine RW.op1 rfl (runs_fieldAddr rfl Try.underlying32 rfl ti30 (by decide)) ?_
              refine RW.on_guard rfl rfl rfl rfl rfl ?_
              first
                | refine RW.op1 rfl (runs_load1 sc30 rfl (hst.cell_own (k := 0) rfl rfl)) ?_
                | refine RW.op1 rfl (runs_load1 sc30 rfl (hst.cell_own (k := 1) rfl rfl)) ?_
                | refine RW.op1 rfl (runs_load1 sc30 rfl (hst.cell_own (k := 2) rfl rfl)) ?_
              refine RW.on_guard rfl rfl rfl rfl rfl ?_
              refine RW.call rfl call36 rfl rfl (checkheads_spec hst hH (fun r hr => by have := hok.hs r hr; omega)) ?_
              rintro e w ⟨J75, en, hJ75, rfl, hstn⟩
              clear hst
              have hst := hstn
              clear hstn
              replace hH := hH.mono hJ75
              replace hle := hle.trans hJ75
              refine ⟨_, rfl, ?_⟩
              refine RW.on_guard rfl rfl rfl rfl rfl ?_
              refine RW.op1 rfl (runs_eqI rfl rfl) ?_
              refine RW.op1 rfl (runs_pick_true rfl rfl rfl) ?_
              refine RW.op1 rfl (runs_move rfl) ?_
              refine RW.split (t := 78) rfl (fun hb78 => ?_) (fun hb78 => ?_)
              · have hb78p := hb78
                try simp only [decide_eq_true_eq, decide_eq_false_iff_not] at hb78p
                refine RW.on_guard rfl rfl rfl rfl hb78 ?_
                first
                  | refine RW.op1 rfl (runs_fieldAddr0 rfl Try.underlying32 rfl ti3 (by decide)) ?_
                  | refine RW.op1 rfl (runs_fieldAddr rfl Try.underlying32 rfl ti3 (by decide)) ?_
                refine RW.on_guard rfl rfl rfl rfl hb78 ?_
                first
                  | refine RW.op1 rfl (runs_load1 sc3 rfl (hst.cell_own (k := 0) rfl rfl)) ?_
                  | refine RW.op1 rfl (runs_load1 sc3 rfl (hst.cell_own (k := 1) rfl rfl)) ?_
                  | refine RW.op1 rfl (runs_load1 sc3 rfl (hst.cell_own (k := 2) rfl rfl)) ?_
                refine RW.on_guard rfl rfl rfl rfl hb78 ?_
                refine RW.op1 rfl (runs_geq rfl rfl) ?_
                refine RW.op1 rfl (runs_pick_true rfl hb78 rfl) ?_
                refine RW.op1 rfl (runs_move rfl) ?_
                refine RW.split (t := 83) rfl (fun hb83 => ?_) (fun hb83 => ?_)
                · have hb83p := hb83
                  try simp only [decide_eq_true_eq, decide_eq_false_iff_not] at hb83p
                  refine RW.on_guard rfl rfl rfl rfl hb83 ?_
                  first
                    | refine RW.op1 rfl (runs_fieldAddr0 rfl Try.underlying32 rfl ti3 (by decide)) ?_
                    | refine RW.op1 rfl (runs_fieldAddr rfl Try.underlying32 rfl ti3 (by decide)) ?_
                  refine RW.on_guard rfl rfl rfl rfl hb83 ?_
                  first
                    | refine RW.op1 rfl (runs_load1 sc3 rfl (hst.cell_own (k := 0) rfl rfl)) ?_
                    | refine RW.op1 rfl (runs_load1 sc3 rfl (hst.cell_own (k := 1) rfl rfl)) ?_
                    | refine RW.op1 rfl (runs_load1 sc3 rfl (hst.cell_own (k := 2) rfl rfl)) ?_
                  refine RW.on_guard rfl rfl rfl rfl hb83 ?_
                  refine RW.op1 rfl (runs_leq rfl rfl) ?_
                  refine RW.op1 rfl (runs_pick_true rfl hb83 rfl) ?_
                  refine RW.op1 rfl (runs_move rfl) ?_
                  refine RW.split (t := 88) rfl (fun hb88 => ?_) (fun hb88 => ?_)
                  · have hb88p := hb88
                    try simp only [decide_eq_true_eq, decide_eq_false_iff_not] at hb88p
                    refine RW.on_guard rfl rfl rfl rfl hb88 ?_
                    first
                      | refine RW.op1 rfl (runs_fieldAddr0 rfl Try.underlying32 rfl ti3 (by decide)) ?_
                      | refine RW.op1 rfl (runs_fieldAddr rfl Try.underlying32 rfl ti3 (by decide)) ?_
                    refine RW.on_guard rfl rfl rfl rfl hb88 ?_
                    first
                      | refine RW.op1 rfl (runs_load1 sc3 rfl (hst.cell_own (k := 0) rfl rfl)) ?_
                      | refine RW.op1 rfl (runs_load1 sc3 rfl (hst.cell_own (k := 1) rfl rfl)) ?_
                      | refine RW.op1 rfl (runs_load1 sc3 rfl (hst.cell_own (k := 2) rfl rfl)) ?_
                    refine RW.on_guard rfl rfl rfl rfl hb88 ?_
                    refine RW.op1 rfl (runs_geq rfl rfl) ?_
                    refine RW.op1 rfl (runs_pick_true rfl hb88 rfl) ?_
                    refine RW.op1 rfl (runs_move rfl) ?_
                    refine RW.split (t := 93) rfl (fun hb93 => ?_) (fun hb93 => ?_)
                    · have hb93p := hb93
                      try simp only [decide_eq_true_eq, decide_eq_false_iff_not] at hb93p
                      refine RW.on_guard rfl rfl rfl rfl hb93 ?_
                      first
                        | refine RW.op1 rfl (runs_fieldAddr0 rfl Try.underlying32 rfl ti3 (by decide)) ?_
                        | refine RW.op1 rfl (runs_fieldAddr rfl Try.underlying32 rfl ti3 (by decide)) ?_
                      refine RW.on_guard rfl rfl rfl rfl hb93 ?_
                      first
                        | refine RW.op1 rfl (runs_load1 sc3 rfl (hst.cell_own (k := 0) rfl rfl)) ?_
                        | refine RW.op1 rfl (runs_load1 sc3 rfl (hst.cell_own (k := 1) rfl rfl)) ?_
                        | refine RW.op1 rfl (runs_load1 sc3 rfl (hst.cell_own (k := 2) rfl rfl)) ?_
                      refine RW.on_guard rfl rfl rfl rfl hb93 ?_
                      refine RW.op1 rfl (runs_leq rfl rfl) ?_
                      refine RW.op1 rfl (runs_pick_true rfl hb93 rfl) ?_
                      refine RW.done ?_
                      exact AQ.meet (_, (_ : Bool)) ⟨hle, hst, hH⟩ ⟨rfl, rfl, rfl, rfl, rfl, rfl, rfl, rfl, rfl, rfl, trivial⟩
                    · have hb93p := hb93
                      try simp only [decide_eq_true_eq, decide_eq_false_iff_not] at hb93p
                      refine RW.off_guard rfl rfl rfl rfl hb93 ?_
                      refine RW.off_guard rfl rfl rfl rfl hb93 ?_
                      refine RW.off_guard rfl rfl rfl rfl hb93 ?_
                      refine RW.op1 rfl (runs_pick_false rfl hb93 rfl) ?_
                      refine RW.done ?_
                      exact AQ.meet (_, (_ : Bool)) ⟨hle, hst, hH⟩ ⟨rfl, rfl, rfl, rfl, rfl, rfl, rfl, rfl, rfl, rfl, trivial⟩
                  · have hb88p := hb88
                    try simp only [decide_eq_true_eq, decide_eq_false_iff_not] at hb88p
                    refine RW.off_guard rfl rfl rfl rfl hb88 ?_
                    refine RW.off_guard rfl rfl rfl rfl hb88 ?_
                    refine RW.off_guard rfl rfl rfl rfl hb88 ?_
                    refine RW.op1 rfl (runs_pick_false rfl hb88 rfl) ?_
                    refine RW.op1 rfl (runs_move rfl) ?_
                    refine RW.off_guard rfl rfl rfl rfl rfl ?_
                    refine RW.off_guard rfl rfl rfl rfl rfl ?_
                    refine RW.off_guard rfl rfl rfl rfl rfl ?_
                    refine RW.op1 rfl (runs_pick_false rfl rfl rfl) ?_
                    refine RW.done ?_
                    exact AQ.meet (_, (_ : Bool)) ⟨hle, hst, hH⟩ ⟨rfl, rfl, rfl, rfl, rfl, rfl, rfl, rfl, rfl, rfl, trivial⟩
                · have hb83p := hb83
                  try simp only [decide_eq_true_eq, decide_eq_false_iff_not] at hb83p
                  refine RW.off_guard rfl rfl rfl rfl hb83 ?_
                  refine RW.off_guard rfl rfl rfl rfl hb83 ?_
                  refine RW.off_guard rfl rfl rfl rfl hb83 ?_
                  refine RW.op1 rfl (runs_pick_false rfl hb83 rfl) ?_
                  refine RW.op1 rfl (runs_move rfl) ?_
                  refine RW.off_guard rfl rfl rfl rfl rfl ?_
                  refine RW.off_guard rfl rfl rfl rfl rfl ?_
                  refine RW.off_guard rfl rfl rfl rfl rfl ?_
                  refine RW.op1 rfl (runs_pick_false rfl rfl rfl) ?_
                  refine RW.op1 rfl (runs_move rfl) ?_
                  refine RW.off_guard rfl rfl rfl rfl rfl ?_
                  refine RW.off_guard rfl rfl rfl rfl rfl ?_
                  refine RW.off_guard rfl rfl rfl rfl rfl ?_
                  refine RW.op1 rfl (runs_pick_false rfl rfl rfl) ?_
                  refine RW.done ?_
                  exact AQ.meet (_, (_ : Bool)) ⟨hle, hst, hH⟩ ⟨rfl, rfl, rfl, rfl, rfl, rfl, rfl, rfl, rfl, rfl, trivial⟩
              · have hb78p := hb78
                try simp only [decide_eq_true_eq, decide_eq_false_iff_not] at hb78p
                refine RW.off_guard rfl rfl rfl rfl hb78 ?_
                refine RW.off_guard rfl rfl rfl rfl hb78 ?_
                refine RW.off_guard rfl rfl rfl rfl hb78 ?_
                refine RW.op1 rfl (runs_pick_false rfl hb78 rfl) ?_
                refine RW.op1 rfl (runs_move rfl) ?_
                refine RW.off_guard rfl rfl rfl rfl rfl ?_
                refine RW.off_guard rfl rfl rfl rfl rfl ?_
                refine RW.off_guard rfl rfl rfl rfl rfl ?_
                refine RW.op1 rfl (runs_pick_false rfl rfl rfl) ?_
                refine RW.op1 rfl (runs_move rfl) ?_
                refine RW.off_guard rfl rfl rfl rfl rfl ?_
                refine RW.off_guard rfl rfl rfl rfl rfl ?_
                refine RW.off_guard rfl rfl rfl rfl rfl ?_
                refine RW.op1 rfl (runs_pick_false rfl rfl rfl) ?_
                refine RW.op1 rfl (runs_move rfl) ?_
                refine RW.off_guard rfl rfl rfl rfl rfl ?_
                refine RW.off_guard rfl rfl rfl rfl rfl ?_
                refine RW.off_guard rfl rfl rfl rfl rfl ?_
                refine RW.op1 rfl (runs_pick_false rfl rfl rfl) ?_
                refine RW.done ?_
                exact AQ.meet (_, (_ : Bool)) ⟨hle, hst, hH⟩ ⟨rfl, rfl, rfl, rfl, rfl, rfl, rfl, rfl, rfl, rfl, trivial⟩
            · have hb56p := hb56
              try simp only [decide_eq_true_eq, decide_eq_false_iff_not] at hb56p
              refine RW.on_guard rfl rfl rfl rfl hb56 ?_
              first
                | refine RW.op1 rfl (runs_fieldAddr0 rfl Try.underlying32 rfl ti9 (by decide)) ?_
                | refine RW.op1 rfl (runs_fieldAddr rfl Try.underlying32 rfl ti9 (by decide)) ?_
              refine RW.on_guard rfl rfl rfl rfl hb56 ?_
              first
                | refine RW.op1 rfl (runs_load1 sc9 rfl (hst.cell_own (k := 0) rfl rfl)) ?_
                | refine RW.op1 rfl (runs_load1 sc9 rfl (hst.cell_own (k := 1) rfl rfl)) ?_
                | refine RW.op1 rfl (runs_load1 sc9 rfl (hst.cell_own (k := 2) rfl rfl)) ?_
              refine RW.on_guard rfl rfl rfl rfl hb56 ?_
              refine RW.op1 rfl (runs_eqS rfl rfl) ?_
              refine RW.on_guard rfl rfl rfl rfl hb47 ?_
              refine RW.op1 rfl (runs_pick_false rfl hb56 rfl) ?_
              refine RW.on_guard rfl rfl rfl rfl hb47 ?_
              refine RW.op1 rfl (runs_move rfl) ?_
              refine RW.split (t := 61) rfl (fun hb61 => ?_) (fun hb61 => ?_)
              · have hb61p := hb61
                try simp only [decide_eq_true_eq, decide_eq_false_iff_not] at hb61p
                refine RW.off_guard rfl rfl rfl rfl hb61 ?_
                refine RW.off_guard rfl rfl rfl rfl hb61 ?_
                refine RW.off_guard rfl rfl rfl rfl hb61 ?_
                refine RW.on_guard rfl rfl rfl rfl hb47 ?_
                refine RW.op1 rfl (runs_pick_true rfl hb61 rfl) ?_
                refine RW.on_guard rfl rfl rfl rfl hb47 ?_
                refine RW.op1 rfl (runs_move rfl) ?_
                refine RW.off_guard rfl rfl rfl rfl rfl ?_
                refine RW.off_guard rfl rfl rfl rfl rfl ?_
                refine RW.off_guard rfl rfl rfl rfl rfl ?_
                refine RW.on_guard rfl rfl rfl rfl hb47 ?_
                refine RW.op1 rfl (runs_pick_true rfl rfl rfl) ?_
                refine RW.op1 rfl (runs_pick_true rfl hb47 rfl) ?_
                refine RW.op1 rfl (runs_move rfl) ?_
                refine RW.on_guard rfl rfl rfl rfl rfl ?_
                first
                  | refine RW.op1 rfl (runs_fieldAddr0 rfl Try.underlying32 rfl ti30 (by decide)) ?_
                  | refine RW.op1 rfl (runs_fieldAddr rfl Try.underlying32 rfl ti30 (by decide)) ?_
                refine RW.on_guard rfl rfl rfl rfl rfl ?_
                first
                  | refine RW.op1 rfl (runs_load1 sc30 rfl (hst.cell_own (k := 0) rfl rfl)) ?_
                  | refine RW.op1 rfl (runs_load1 sc30 rfl (hst.cell_own (k := 1) rfl rfl)) ?_
                  | refine RW.op1 rfl (runs_load1 sc30 rfl (hst.cell_own (k := 2) rfl rfl)) ?_
                refine RW.on_guard rfl rfl rfl rfl rfl ?_
                refine RW.call rfl call36 rfl rfl (checkheads_spec hst hH (fun r hr => by have := hok.hs r hr; omega)) ?_
                rintro e w ⟨J75, en, hJ75, rfl, hstn⟩
                clear hst
                have hst := hstn
                clear hstn
                replace hH := hH.mono hJ75
                replace hle := hle.trans hJ75
                refine ⟨_, rfl, ?_⟩
                refine RW.on_guard rfl rfl rfl rfl rfl ?_
                refine RW.op1 rfl (runs_eqI rfl rfl) ?_
                refine RW.op1 rfl (runs_pick_true rfl rfl rfl) ?_
                refine RW.op1 rfl (runs_move rfl) ?_
                refine RW.split (t := 78) rfl (fun hb78 => ?_) (fun hb78 => ?_)
                · have hb78p := hb78
                  try simp only [decide_eq_true_eq, decide_eq_false_iff_not] at hb78p
                  refine RW.on_guard rfl rfl rfl rfl hb78 ?_
                  first
                    | refine RW.op1 rfl (runs_fieldAddr0 rfl Try.underlying32 rfl ti3 (by decide)) ?_
                    | refine RW.op1 rfl (runs_fieldAddr rfl Try.underlying32 rfl ti3 (by decide)) ?_
                  refine RW.on_guard rfl rfl rfl rfl hb78 ?_
                  first
                    | refine RW.op1 rfl (runs_load1 sc3 rfl (hst.cell_own (k := 0) rfl rfl)) ?_
                    | refine RW.op1 rfl (runs_load1 sc3 rfl (hst.cell_own (k := 1) rfl rfl)) ?_
                    | refine RW.op1 rfl (runs_load1 sc3 rfl (hst.cell_own (k := 2) rfl rfl)) ?_
                  refine RW.on_guard rfl rfl rfl rfl hb78 ?_
                  refine RW.op1 rfl (runs_geq rfl rfl) ?_
                  refine RW.op1 rfl (runs_pick_true rfl hb78 rfl) ?_
                  refine RW.op1 rfl (runs_move rfl) ?_
                  refine RW.split (t := 83) rfl (fun hb83 => ?_) (fun hb83 => ?_)
                  · have hb83p := hb83
                    try simp only [decide_eq_true_eq, decide_eq_false_iff_not] at hb83p
                    refine RW.on_guard rfl rfl rfl rfl hb83 ?_
                    first
                      | refine RW.op1 rfl (runs_fieldAddr0 rfl Try.underlying32 rfl ti3 (by decide)) ?_
                      | refine RW.op1 rfl (runs_fieldAddr rfl Try.underlying32 rfl ti3 (by decide)) ?_
                    refine RW.on_guard rfl rfl rfl rfl hb83 ?_
                    first
                      | refine RW.op1 rfl (runs_load1 sc3 rfl (hst.cell_own (k := 0) rfl rfl)) ?_
                      | refine RW.op1 rfl (runs_load1 sc3 rfl (hst.cell_own (k := 1) rfl rfl)) ?_
                      | refine RW.op1 rfl (runs_load1 sc3 rfl (hst.cell_own (k := 2) rfl rfl)) ?_
                    refine RW.on_guard rfl rfl rfl rfl hb83 ?_
                    refine RW.op1 rfl (runs_leq rfl rfl) ?_
                    refine RW.op1 rfl (runs_pick_true rfl hb83 rfl) ?_
                    refine RW.op1 rfl (runs_move rfl) ?_
                    refine RW.split (t := 88) rfl (fun hb88 => ?_) (fun hb88 => ?_)
                    · have hb88p := hb88
                      try simp only [decide_eq_true_eq, decide_eq_false_iff_not] at hb88p
                      refine RW.on_guard rfl rfl rfl rfl hb88 ?_
                      first
                        | refine RW.op1 rfl (runs_fieldAddr0 rfl Try.underlying32 rfl ti3 (by decide)) ?_
                        | refine RW.op1 rfl (runs_fieldAddr rfl Try.underlying32 rfl ti3 (by decide)) ?_
                      refine RW.on_guard rfl rfl rfl rfl hb88 ?_
                      first
                        | refine RW.op1 rfl (runs_load1 sc3 rfl (hst.cell_own (k := 0) rfl rfl)) ?_
                        | refine RW.op1 rfl (runs_load1 sc3 rfl (hst.cell_own (k := 1) rfl rfl)) ?_
                        | refine RW.op1 rfl (runs_load1 sc3 rfl (hst.cell_own (k := 2) rfl rfl)) ?_
                      refine RW.on_guard rfl rfl rfl rfl hb88 ?_
                      refine RW.op1 rfl (runs_geq rfl rfl) ?_
                      refine RW.op1 rfl (runs_pick_true rfl hb88 rfl) ?_
                      refine RW.op1 rfl (runs_move rfl) ?_
                      refine RW.split (t := 93) rfl (fun hb93 => ?_) (fun hb93 => ?_)
                      · have hb93p := hb93
                        try simp only [decide_eq_true_eq, decide_eq_false_iff_not] at hb93p
                        refine RW.on_guard rfl rfl rfl rfl hb93 ?_
                        first
                          | refine RW.op1 rfl (runs_fieldAddr0 rfl Try.underlying32 rfl ti3 (by decide)) ?_
                          | refine RW.op1 rfl (runs_fieldAddr rfl Try.underlying32 rfl ti3 (by decide)) ?_
                        refine RW.on_guard rfl rfl rfl rfl hb93 ?_
                        first
                          | refine RW.op1 rfl (runs_load1 sc3 rfl (hst.cell_own (k := 0) rfl rfl)) ?_
                          | refine RW.op1 rfl (runs_load1 sc3 rfl (hst.cell_own (k := 1) rfl rfl)) ?_
                          | refine RW.op1 rfl (runs_load1 sc3 rfl (hst.cell_own (k := 2) rfl rfl)) ?_
                        refine RW.on_guard rfl rfl rfl rfl hb93 ?_
                        refine RW.op1 rfl (runs_leq rfl rfl) ?_
                        refine RW.op1 rfl (runs_pick_true rfl hb93 rfl) ?_
                        refine RW.done ?_
                        exact AQ.meet (_, (_ : Bool)) ⟨hle, hst, hH⟩ ⟨rfl, rfl, rfl, rfl, rfl, rfl, rfl, rfl, rfl, rfl, trivial⟩
                      · have hb93p := hb93
                        try simp only [decide_eq_true_eq, decide_eq_false_iff_not] at hb93p
                        refine RW.off_guard rfl rfl rfl rfl hb93 ?_
                        refine RW.off_guard rfl rfl rfl rfl hb93 ?_
                        refine RW.off_guard rfl rfl rfl rfl hb93 ?_
                        refine RW.op1 rfl (runs_pick_false rfl hb93 rfl) ?_
                        refine RW.done ?_
                        exact AQ.meet (_, (_ : Bool)) ⟨hle, hst, hH⟩ ⟨rfl, rfl, rfl, rfl, rfl, rfl, rfl, rfl, rfl, rfl, trivial⟩
                    · have hb88p := hb88
                      try simp only [decide_eq_true_eq, decide_eq_false_iff_not] at hb88p
                      refine RW.off_guard rfl rfl rfl rfl hb88 ?_
                      refine RW.off_guard rfl rfl rfl rfl hb88 ?_
                      refine RW.off_guard rfl rfl rfl rfl hb88 ?_
                      refine RW.op1 rfl (runs_pick_false rfl hb88 rfl) ?_
                      refine RW.op1 rfl (runs_move rfl) ?_
                      refine RW.off_guard rfl rfl rfl rfl rfl ?_
                      refine RW.off_guard rfl rfl rfl rfl rfl ?_
                      refine RW.off_guard rfl rfl rfl rfl rfl ?_
                      refine RW.op1 rfl (runs_pick_false rfl rfl rfl) ?_
                      refine RW.done ?_
                      exact AQ.meet (_, (_ : Bool)) ⟨hle, hst, hH⟩ ⟨rfl, rfl, rfl, rfl, rfl, rfl, rfl, rfl, rfl, rfl, trivial⟩
                  · have hb83p := hb83
                    try simp only [decide_eq_true_eq, decide_eq_false_iff_not] at hb83p
                    refine RW.off_guard rfl rfl rfl rfl hb83 ?_
                    refine RW.off_guard rfl rfl rfl rfl hb83 ?_
                    refine RW.off_guard rfl rfl rfl rfl hb83 ?_
                    refine RW.op1 rfl (runs_pick_false rfl hb83 rfl) ?_
                    refine RW.op1 rfl (runs_move rfl) ?_
                    refine RW.off_guard rfl rfl rfl rfl rfl ?_
                    refine RW.off_guard rfl rfl rfl rfl rfl ?_
                    refine RW.off_guard rfl rfl rfl rfl rfl ?_
                    refine RW.op1 rfl (runs_pick_false rfl rfl rfl) ?_
                    refine RW.op1 rfl (runs_move rfl) ?_
                    refine RW.off_guard rfl rfl rfl rfl rfl ?_
                    refine RW.off_guard rfl rfl rfl rfl rfl ?_
                    refine RW.off_guard rfl rfl rfl rfl rfl ?_
                    refine RW.op1 rfl (runs_pick_false rfl rfl rfl) ?_
                    refine RW.done ?_
                    exact AQ.meet (_, (_ : Bool)) ⟨hle, hst, hH⟩ ⟨rfl, rfl, rfl, rfl, rfl, rfl, rfl, rfl, rfl, rfl, trivial⟩
                · have hb78p := hb78
                  try simp only [decide_eq_true_eq, decide_eq_false_iff_not] at hb78p
                  refine RW.off_guard rfl rfl rfl rfl hb78 ?_
                  refine RW.off_guard rfl rfl rfl rfl hb78 ?_
                  refine RW.off_guard rfl rfl rfl rfl hb78 ?_
                  refine RW.op1 rfl (runs_pick_false rfl hb78 rfl) ?_
                  refine RW.op1 rfl (runs_move rfl) ?_
                  refine RW.off_guard rfl rfl rfl rfl rfl ?_
                  refine RW.off_guard rfl rfl rfl rfl rfl ?_
                  refine RW.off_guard rfl rfl rfl rfl rfl ?_
                  refine RW.op1 rfl (runs_pick_false rfl rfl rfl) ?_
                  refine RW.op1 rfl (runs_move rfl) ?_
                  refine RW.off_guard rfl rfl rfl rfl rfl ?_
                  refine RW.off_guard rfl rfl rfl rfl rfl ?_
                  refine RW.off_guard rfl rfl rfl rfl rfl ?_
                  refine RW.op1 rfl (runs_pick_false rfl rfl rfl) ?_
                  refine RW.op1 rfl (runs_move rfl) ?_
                  refine RW.off_guard rfl rfl rfl rfl rfl ?_
                  refine RW.off_guard rfl rfl rfl rfl rfl ?_
                  refine RW.off_guard rfl rfl rfl rfl rfl ?_
                  refine RW.op1 rfl (runs_pick_false rfl rfl rfl) ?_
                  refine RW.done ?_
                  exact AQ.meet (_, (_ : Bool)) ⟨hle, hst, hH⟩ ⟨rfl, rfl, rfl, rfl, rfl, rfl, rfl, rfl, rfl, rfl, trivial⟩
              · have hb61p := hb61
                try simp only [decide_eq_true_eq, decide_eq_false_iff_not] at hb61p
                refine RW.on_guard rfl rfl rfl rfl hb61 ?_
                first
                  | refine RW.op1 rfl (runs_fieldAddr0 rfl Try.underlying32 rfl ti9 (by decide)) ?_
                  | refine RW.op1 rfl (runs_fieldAddr rfl Try.underlying32 rfl ti9 (by decide)) ?_
                refine RW.on_guard rfl rfl rfl rfl hb61 ?_
                first
                  | refine RW.op1 rfl (runs_load1 sc9 rfl (hst.cell_own (k := 0) rfl rfl)) ?_
                  | refine RW.op1 rfl (runs_load1 sc9 rfl (hst.cell_own (k := 1) rfl rfl)) ?_
                  | refine RW.op1 rfl (runs_load1 sc9 rfl (hst.cell_own (k := 2) rfl rfl)) ?_
                refine RW.on_guard rfl rfl rfl rfl hb61 ?_
                refine RW.op1 rfl (runs_eqS rfl rfl) ?_
                refine RW.on_guard rfl rfl rfl rfl hb47 ?_
                refine RW.op1 rfl (runs_pick_false rfl hb61 rfl) ?_
                refine RW.on_guard rfl rfl rfl rfl hb47 ?_
                refine RW.op1 rfl (runs_move rfl) ?_
                refine RW.split (t := 66) rfl (fun hb66 => ?_) (fun hb66 => ?_)
                · have hb66p := hb66
                  try simp only [decide_eq_true_eq, decide_eq_false_iff_not] at hb66p
                  refine RW.off_guard rfl rfl rfl rfl hb66 ?_
                  refine RW.off_guard rfl rfl rfl rfl hb66 ?_
                  refine RW.off_guard rfl rfl rfl rfl hb66 ?_
                  refine RW.on_guard rfl rfl rfl rfl hb47 ?_
                  refine RW.op1 rfl (runs_pick_true rfl hb66 rfl) ?_
                  refine RW.op1 rfl (runs_pick_true rfl hb47 rfl) ?_
                  refine RW.op1 rfl (runs_move rfl) ?_
                  refine RW.on_guard rfl rfl rfl rfl rfl ?_
                  first
                    | refine RW.op1 rfl (runs_fieldAddr0 rfl Try.underlying32 rfl ti30 (by decide)) ?_
                    | refine RW.op1 rfl (runs_fieldAddr rfl Try.underlying32 rfl ti30 (by decide)) ?_
                  refine RW.on_guard rfl rfl rfl rfl rfl ?_
                  first
                    | refine RW.op1 rfl (runs_load1 sc30 rfl (hst.cell_own (k := 0) rfl rfl)) ?_
                    | refine RW.op1 rfl (runs_load1 sc30 rfl (hst.cell_own (k := 1) rfl rfl)) ?_
                    | refine RW.op1 rfl (runs_load1 sc30 rfl (hst.cell_own (k := 2) rfl rfl)) ?_
                  refine RW.on_guard rfl rfl rfl rfl rfl ?_
                  refine RW.call rfl call36 rfl rfl (checkheads_spec hst hH (fun r hr => by have := hok.hs r hr; omega)) ?_
                  rintro e w ⟨J75, en, hJ75, rfl, hstn⟩
                  clear hst
                  have hst := hstn
                  clear hstn
                  replace hH := hH.mono hJ75
                  replace hle := hle.trans hJ75
                  refine ⟨_, rfl, ?_⟩
                  refine RW.on_guard rfl rfl rfl rfl rfl ?_
                  refine RW.op1 rfl (runs_eqI rfl rfl) ?_
                  refine RW.op1 rfl (runs_pick_true rfl rfl rfl) ?_
                  refine RW.op1 rfl (runs_move rfl) ?_
                  refine RW.split (t := 78) rfl (fun hb78 => ?_) (fun hb78 => ?_)
                  · have hb78p := hb78
                    try simp only [decide_eq_true_eq, decide_eq_false_iff_not] at hb78p
                    refine RW.on_guard rfl rfl rfl rfl hb78 ?_
                    first
                      | refine RW.op1 rfl (runs_fieldAddr0 rfl Try.underlying32 rfl ti3 (by decide)) ?_
                      | refine RW.op1 rfl (runs_fieldAddr rfl Try.underlying32 rfl ti3 (by decide)) ?_
                    refine RW.on_guard rfl rfl rfl rfl hb78 ?_
                    first
                      | refine RW.op1 rfl (runs_load1 sc3 rfl (hst.cell_own (k := 0) rfl rfl)) ?_
                      | refine RW.op1 rfl (runs_load1 sc3 rfl (hst.cell_own (k := 1) rfl rfl)) ?_
                      | refine RW.op1 rfl (runs_load1 sc3 rfl (hst.cell_own (k := 2) rfl rfl)) ?_
                    refine RW.on_guard rfl rfl rfl rfl hb78 ?_
                    refine RW.op1 rfl (runs_geq rfl rfl) ?_
                    refine RW.op1 rfl (runs_pick_true rfl hb78 rfl) ?_
                    refine RW.op1 rfl (runs_move rfl) ?_
                    refine RW.split (t := 83) rfl (fun hb83 => ?_) (fun hb83 => ?_)
                    · have hb83p := hb83
                      try simp only [decide_eq_true_eq, decide_eq_false_iff_not] at hb83p
                      refine RW.on_guard rfl rfl rfl rfl hb83 ?_
                      first
                        | refine RW.op1 rfl (runs_fieldAddr0 rfl Try.underlying32 rfl ti3 (by decide)) ?_
                        | refine RW.op1 rfl (runs_fieldAddr rfl Try.underlying32 rfl ti3 (by decide)) ?_
                      refine RW.on_guard rfl rfl rfl rfl hb83 ?_
                      first
                        | refine RW.op1 rfl (runs_load1 sc3 rfl (hst.cell_own (k := 0) rfl rfl)) ?_
                        | refine RW.op1 rfl (runs_load1 sc3 rfl (hst.cell_own (k := 1) rfl rfl)) ?_
                        | refine RW.op1 rfl (runs_load1 sc3 rfl (hst.cell_own (k := 2) rfl rfl)) ?_
                      refine RW.on_guard rfl rfl rfl rfl hb83 ?_
                      refine RW.op1 rfl (runs_leq rfl rfl) ?_
                      refine RW.op1 rfl (runs_pick_true rfl hb83 rfl) ?_
                      refine RW.op1 rfl (runs_move rfl) ?_
                      refine RW.split (t := 88) rfl (fun hb88 => ?_) (fun hb88 => ?_)
                      · have hb88p := hb88
                        try simp only [decide_eq_true_eq, decide_eq_false_iff_not] at hb88p
                        refine RW.on_guard rfl rfl rfl rfl hb88 ?_
                        first
                          | refine RW.op1 rfl (runs_fieldAddr0 rfl Try.underlying32 rfl ti3 (by decide)) ?_
                          | refine RW.op1 rfl (runs_fieldAddr rfl Try.underlying32 rfl ti3 (by decide)) ?_
                        refine RW.on_guard rfl rfl rfl rfl hb88 ?_
                        first
                          | refine RW.op1 rfl (runs_load1 sc3 rfl (hst.cell_own (k := 0) rfl rfl)) ?_
                          | refine RW.op1 rfl (runs_load1 sc3 rfl (hst.cell_own (k := 1) rfl rfl)) ?_
                          | refine RW.op1 rfl (runs_load1 sc3 rfl (hst.cell_own (k := 2) rfl rfl)) ?_
                        refine RW.on_guard rfl rfl rfl rfl hb88 ?_
                        refine RW.op1 rfl (runs_geq rfl rfl) ?_
                        refine RW.op1 rfl (runs_pick_true rfl hb88 rfl) ?_
                        refine RW.op1 rfl (runs_move rfl) ?_
                        refine RW.split (t := 93) rfl (fun hb93 => ?_) (fun hb93 => ?_)
                        · have hb93p := hb93
                          try simp only [decide_eq_true_eq, decide_eq_false_iff_not] at hb93p
                          refine RW.on_guard rfl rfl rfl rfl hb93 ?_
                          first
                            | refine RW.op1 rfl (runs_fieldAddr0 rfl Try.underlying32 rfl ti3 (by decide)) ?_
                            | refine RW.op1 rfl (runs_fieldAddr rfl Try.underlying32 rfl ti3 (by decide)) ?_
                          refine RW.on_guard rfl rfl rfl rfl hb93 ?_
                          first
                            | refine RW.op1 rfl (runs_load1 sc3 rfl (hst.cell_own (k := 0) rfl rfl)) ?_
                            | refine RW.op1 rfl (runs_load1 sc3 rfl (hst.cell_own (k := 1) rfl rfl)) ?_
                            | refine RW.op1 rfl (runs_load1 sc3 rfl (hst.cell_own (k := 2) rfl rfl)) ?_
                          refine RW.on_guard rfl rfl rfl rfl hb93 ?_
                          refine RW.op1 rfl (runs_leq rfl rfl) ?_
                          refine RW.op1 rfl (runs_pick_true rfl hb93 rfl) ?_
                          refine RW.done ?_
                          exact AQ.meet (_, (_ : Bool)) ⟨hle, hst, hH⟩ ⟨rfl, rfl, rfl, rfl, rfl, rfl, rfl, rfl, rfl, rfl, trivial⟩
                        · have hb93p := hb93
                          try simp only [decide_eq_true_eq, decide_eq_false_iff_not] at hb93p
                          refine RW.off_guard rfl rfl rfl rfl hb93 ?_
                          refine RW.off_guard rfl rfl rfl rfl hb93 ?_
                          refine RW.off_guard rfl rfl rfl rfl hb93 ?_
                          refine RW.op1 rfl (runs_pick_false rfl hb93 rfl) ?_
                          refine RW.done ?_
                          exact AQ.meet (_, (_ : Bool)) ⟨hle, hst, hH⟩ ⟨rfl, rfl, rfl, rfl, rfl, rfl, rfl, rfl, rfl, rfl, trivial⟩
                      · have hb88p := hb88
                        try simp only [decide_eq_true_eq, decide_eq_false_iff_not] at hb88p
                        refine RW.off_guard rfl rfl rfl rfl hb88 ?_
                        refine RW.off_guard rfl rfl rfl rfl hb88 ?_
                        refine RW.off_guard rfl rfl rfl rfl hb88 ?_
                        refine RW.op1 rfl (runs_pick_false rfl hb88 rfl) ?_
                        refine RW.op1 rfl (runs_move rfl) ?_
                        refine RW.off_guard rfl rfl rfl rfl rfl ?_
                        refine RW.off_guard rfl rfl rfl rfl rfl ?_
                        refine RW.off_guard rfl rfl rfl rfl rfl ?_
                        refine RW.op1 rfl (runs_pick_false rfl rfl rfl) ?_
                        refine RW.done ?_
                        exact AQ.meet (_, (_ : Bool)) ⟨hle, hst, hH⟩ ⟨rfl, rfl, rfl, rfl, rfl, rfl, rfl, rfl, rfl, rfl, trivial⟩
                    · have hb83p := hb83
                      try simp only [decide_eq_true_eq, decide_eq_false_iff_not] at hb83p
                      refine RW.off_guard rfl rfl rfl rfl hb83 ?_
                      refine RW.off_guard rfl rfl rfl rfl hb83 ?_
                      refine RW.off_guard rfl rfl rfl rfl hb83 ?_
                      refine RW.op1 rfl (runs_pick_false rfl hb83 rfl) ?_
                      refine RW.op1 rfl (runs_move rfl) ?_
                      refine RW.off_guard rfl rfl rfl rfl rfl ?_
                      refine RW.off_guard rfl rfl rfl rfl rfl ?_
                      refine RW.off_guard rfl rfl rfl rfl rfl ?_
                      refine RW.op1 rfl (runs_pick_false rfl rfl rfl) ?_
                      refine RW.op1 rfl (runs_move rfl) ?_
                      refine RW.off_guard rfl rfl rfl rfl rfl ?_
                      refine RW.off_guard rfl rfl rfl rfl rfl ?_
                      refine RW.off_guard rfl rfl rfl rfl rfl ?_
                      refine RW.op1 rfl (runs_pick_false rfl rfl rfl) ?_
                      refine RW.done ?_
                      exact AQ.meet (_, (_ : Bool)) ⟨hle, hst, hH⟩ ⟨rfl, rfl, rfl, rfl, rfl, rfl, rfl, rfl, rfl, rfl, trivial⟩
                  · have hb78p := hb78
                    try simp only [decide_eq_true_eq, decide_eq_false_iff_not] at hb78p
                    refine RW.off_guard rfl rfl rfl rfl hb78 ?_
                    refine RW.off_guard rfl rfl rfl rfl hb78 ?_
                    refine RW.off_guard rfl rfl rfl rfl hb78 ?_
                    refine RW.op1 rfl (runs_pick_false rfl hb78 rfl) ?_
                    refine RW.op1 rfl (runs_move rfl) ?_
                    refine RW.off_guard rfl rfl rfl rfl rfl ?_
                    refine RW.off_guard rfl rfl rfl rfl rfl ?_
                    refine RW.off_guard rfl rfl rfl rfl rfl ?_
                    refine RW.op1 rfl (runs_pick_false rfl rfl rfl) ?_
                    refine RW.op1 rfl (runs_move rfl) ?_
                    refine RW.off_guard rfl rfl rfl rfl rfl ?_
                    refine RW.off_guard rfl rfl rfl rfl rfl ?_
                    refine RW.off_guard rfl rfl rfl rfl rfl ?_
                    refine RW.op1 rfl (runs_pick_false rfl rfl rfl) ?_
                    refine RW.op1 rfl (runs_move rfl) ?_
                    refine RW.off_guard rfl rfl rfl rfl rfl ?_
                    refine RW.off_guard rfl rfl rfl rfl rfl ?_
                    refine RW.off_guard rfl rfl rfl rfl rfl ?_
                    refine RW.op1 rfl (runs_pick_false rfl rfl rfl) ?_
                    refine RW.done ?_
                    exact AQ.meet (_, (_ : Bool)) ⟨hle, hst, hH⟩ ⟨rfl, rfl, rfl, rfl, rfl, rfl, rfl, rfl, rfl, rfl, trivial⟩
                · have hb66p := hb66
                  try simp only [decide_eq_true_eq, decide_eq_false_iff_not] at hb66p
                  refine RW.on_guard rfl rfl rfl rfl hb66 ?_
                  first
                    | refine RW.op1 rfl (runs_fieldAddr0 rfl Try.underlying32 rfl ti9 (by decide)) ?_
                    | refine RW.op1 rfl (runs_fieldAddr rfl Try.underlying32 rfl ti9 (by decide)) ?_
                  refine RW.on_guard rfl rfl rfl rfl hb66 ?_
                  first
                    | refine RW.op1 rfl (runs_load1 sc9 rfl (hst.cell_own (k := 0) rfl rfl)) ?_
                    | refine RW.op1 rfl (runs_load1 sc9 rfl (hst.cell_own (k := 1) rfl rfl)) ?_
                    | refine RW.op1 rfl (runs_load1 sc9 rfl (hst.cell_own (k := 2) rfl rfl)) ?_
                  refine RW.on_guard rfl rfl rfl rfl hb66 ?_
                  refine RW.op1 rfl (runs_eqS rfl rfl) ?_
                  refine RW.on_guard rfl rfl rfl rfl hb47 ?_
                  refine RW.op1 rfl (runs_pick_false rfl hb66 rfl) ?_
                  refine RW.op1 rfl (runs_pick_true rfl hb47 rfl) ?_
                  refine RW.op1 rfl (runs_move rfl) ?_
                  refine RW.split (t := 72) rfl (fun hb72 => ?_) (fun hb72 => ?_)
                  · have hb72p := hb72
                    try simp only [decide_eq_true_eq, decide_eq_false_iff_not] at hb72p
                    refine RW.on_guard rfl rfl rfl rfl hb72 ?_
                    first
                      | refine RW.op1 rfl (runs_fieldAddr0 rfl Try.underlying32 rfl ti30 (by decide)) ?_
                      | refine RW.op1 rfl (runs_fieldAddr rfl Try.underlying32 rfl ti30 (by decide)) ?_
                    refine RW.on_guard rfl rfl rfl rfl hb72 ?_
                    first
                      | refine RW.op1 rfl (runs_load1 sc30 rfl (hst.cell_own (k := 0) rfl rfl)) ?_
                      | refine RW.op1 rfl (runs_load1 sc30 rfl (hst.cell_own (k := 1) rfl rfl)) ?_
                      | refine RW.op1 rfl (runs_load1 sc30 rfl (hst.cell_own (k := 2) rfl rfl)) ?_
                    refine RW.on_guard rfl rfl rfl rfl hb72 ?_
                    refine RW.call rfl call36 rfl rfl (checkheads_spec hst hH (fun r hr => by have := hok.hs r hr; omega)) ?_
                    rintro e w ⟨J75, en, hJ75, rfl, hstn⟩
                    clear hst
                    have hst := hstn
                    clear hstn
                    replace hH := hH.mono hJ75
                    replace hle := hle.trans hJ75
                    refine ⟨_, rfl, ?_⟩
                    refine RW.on_guard rfl rfl rfl rfl hb72 ?_
                    refine RW.op1 rfl (runs_eqI rfl rfl) ?_
                    refine RW.op1 rfl (runs_pick_true rfl hb72 rfl) ?_
                    refine RW.op1 rfl (runs_move rfl) ?_
                    refine RW.split (t := 78) rfl (fun hb78 => ?_) (fun hb78 => ?_)
                    · have hb78p := hb78
                      try simp only [decide_eq_true_eq, decide_eq_false_iff_not] at hb78p
                      refine RW.on_guard rfl rfl rfl rfl hb78 ?_
                      first
                        | refine RW.op1 rfl (runs_fieldAddr0 rfl Try.underlying32 rfl ti3 (by decide)) ?_
                        | refine RW.op1 rfl (runs_fieldAddr rfl Try.underlying32 rfl ti3 (by decide)) ?_
                      refine RW.on_guard rfl rfl rfl rfl hb78 ?_
                      first
                        | refine RW.op1 rfl (runs_load1 sc3 rfl (hst.cell_own (k := 0) rfl rfl)) ?_
                        | refine RW.op1 rfl (runs_load1 sc3 rfl (hst.cell_own (k := 1) rfl rfl)) ?_
                        | refine RW.op1 rfl (runs_load1 sc3 rfl (hst.cell_own (k := 2) rfl rfl)) ?_
                      refine RW.on_guard rfl rfl rfl rfl hb78 ?_
                      refine RW.op1 rfl (runs_geq rfl rfl) ?_
                      refine RW.op1 rfl (runs_pick_true rfl hb78 rfl) ?_
                      refine RW.op1 rfl (runs_move rfl) ?_
                      refine RW.split (t := 83) rfl (fun hb83 => ?_) (fun hb83 => ?_)
                      · have hb83p := hb83
                        try simp only [decide_eq_true_eq, decide_eq_false_iff_not] at hb83p
                        refine RW.on_guard rfl rfl rfl rfl hb83 ?_
                        first
                          | refine RW.op1 rfl (runs_fieldAddr0 rfl Try.underlying32 rfl ti3 (by decide)) ?_
                          | refine RW.op1 rfl (runs_fieldAddr rfl Try.underlying32 rfl ti3 (by decide)) ?_
                        refine RW.on_guard rfl rfl rfl rfl hb83 ?_
                        first
                          | refine RW.op1 rfl (runs_load1 sc3 rfl (hst.cell_own (k := 0) rfl rfl)) ?_
                          | refine RW.op1 rfl (runs_load1 sc3 rfl (hst.cell_own (k := 1) rfl rfl)) ?_
                          | refine RW.op1 rfl (runs_load1 sc3 rfl (hst.cell_own (k := 2) rfl rfl)) ?_
                        refine RW.on_guard rfl rfl rfl rfl hb83 ?_
                        refine RW.op1 rfl (runs_leq rfl rfl) ?_
                        refine RW.op1 rfl (runs_pick_true rfl hb83 rfl) ?_
                        refine RW.op1 rfl (runs_move rfl) ?_
                        refine RW.split (t := 88) rfl (fun hb88 => ?_) (fun hb88 => ?_)
                        · have hb88p := hb88
                          try simp only [decide_eq_true_eq, decide_eq_false_iff_not] at hb88p
                          refine RW.on_guard rfl rfl rfl rfl hb88 ?_
                          first
                            | refine RW.op1 rfl (runs_fieldAddr0 rfl Try.underlying32 rfl ti3 (by decide)) ?_
                            | refine RW.op1 rfl (runs_fieldAddr rfl Try.underlying32 rfl ti3 (by decide)) ?_
                          refine RW.on_guard rfl rfl rfl rfl hb88 ?_
                          first
                            | refine RW.op1 rfl (runs_load1 sc3 rfl (hst.cell_own (k := 0) rfl rfl)) ?_
                            | refine RW.op1 rfl (runs_load1 sc3 rfl (hst.cell_own (k := 1) rfl rfl)) ?_
                            | refine RW.op1 rfl (runs_load1 sc3 rfl (hst.cell_own (k := 2) rfl rfl)) ?_
                          refine RW.on_guard rfl rfl rfl rfl hb88 ?_
                          refine RW.op1 rfl (runs_geq rfl rfl) ?_
                          refine RW.op1 rfl (runs_pick_true rfl hb88 rfl) ?_
                          refine RW.op1 rfl (runs_move rfl) ?_
                          refine RW.split (t := 93) rfl (fun hb93 => ?_) (fun hb93 => ?_)
                          · have hb93p := hb93
                            try simp only [decide_eq_true_eq, decide_eq_false_iff_not] at hb93p
                            refine RW.on_guard rfl rfl rfl rfl hb93 ?_
                            first
                              | refine RW.op1 rfl (runs_fieldAddr0 rfl Try.underlying32 rfl ti3 (by decide)) ?_
                              | refine RW.op1 rfl (runs_fieldAddr rfl Try.underlying32 rfl ti3 (by decide)) ?_
                            refine RW.on_guard rfl rfl rfl rfl hb93 ?_
                            first
                              | refine RW.op1 rfl (runs_load1 sc3 rfl (hst.cell_own (k := 0) rfl rfl)) ?_
                              | refine RW.op1 rfl (runs_load1 sc3 rfl (hst.cell_own (k := 1) rfl rfl)) ?_
                              | refine RW.op1 rfl (runs_load1 sc3 rfl (hst.cell_own (k := 2) rfl rfl)) ?_
                            refine RW.on_guard rfl rfl rfl rfl hb93 ?_
                            refine RW.op1 rfl (runs_leq rfl rfl) ?_
                            refine RW.op1 rfl (runs_pick_true rfl hb93 rfl) ?_
                            refine RW.done ?_
                            exact AQ.meet (_, (_ : Bool)) ⟨hle, hst, hH⟩ ⟨rfl, rfl, rfl, rfl, rfl, rfl, rfl, rfl, rfl, rfl, trivial⟩
                          · have hb93p := hb93
                            try simp only [decide_eq_true_eq, decide_eq_false_iff_not] at hb93p
                            refine RW.off_guard rfl rfl rfl rfl hb93 ?_
                            refine RW.off_guard rfl rfl rfl rfl hb93 ?_
                            refine RW.off_guard rfl rfl rfl rfl hb93 ?_
                            refine RW.op1 rfl (runs_pick_false rfl hb93 rfl) ?_
                            refine RW.done ?_
                            exact AQ.meet (_, (_ : Bool)) ⟨hle, hst, hH⟩ ⟨rfl, rfl, rfl, rfl, rfl, rfl, rfl, rfl, rfl, rfl, trivial⟩
                        · have hb88p := hb88
                          try simp only [decide_eq_true_eq, decide_eq_false_iff_not] at hb88p
                          refine RW.off_guard rfl rfl rfl rfl hb88 ?_
                          refine RW.off_guard rfl rfl rfl rfl hb88 ?_
                          refine RW.off_guard rfl rfl rfl rfl hb88 ?_
                          refine RW.op1 rfl (runs_pick_false rfl hb88 rfl) ?_
                          refine RW.op1 rfl (runs_move rfl) ?_
                          refine RW.off_guard rfl rfl rfl rfl rfl ?_
                          refine RW.off_guard rfl rfl rfl rfl rfl ?_
                          refine RW.off_guard rfl rfl rfl rfl rfl ?_
                          refine RW.op1 rfl (runs_pick_false rfl rfl rfl) ?_
                          refine RW.done ?_
                          exact AQ.meet (_, (_ : Bool)) ⟨hle, hst, hH⟩ ⟨rfl, rfl, rfl, rfl, rfl, rfl, rfl, rfl, rfl, rfl, trivial⟩
                      · have hb83p := hb83
                        try simp only [decide_eq_true_eq, decide_eq_false_iff_not] at hb83p
                        refine RW.off_guard rfl rfl rfl rfl hb83 ?_
                        refine RW.off_guard rfl rfl rfl rfl hb83 ?_
                        refine RW.off_guard rfl rfl rfl rfl hb83 ?_
                        refine RW.op1 rfl (runs_pick_false rfl hb83 rfl) ?_
                        refine RW.op1 rfl (runs_move rfl) ?_
                        refine RW.off_guard rfl rfl rfl rfl rfl ?_
                        refine RW.off_guard rfl rfl rfl rfl rfl ?_
                        refine RW.off_guard rfl rfl rfl rfl rfl ?_
                        refine RW.op1 rfl (runs_pick_false rfl rfl rfl) ?_
                        refine RW.op1 rfl (runs_move rfl) ?_
                        refine RW.off_guard rfl rfl rfl rfl rfl ?_
                        refine RW.off_guard rfl rfl rfl rfl rfl ?_
                        refine RW.off_guard rfl rfl rfl rfl rfl ?_
                        refine RW.op1 rfl (runs_pick_false rfl rfl rfl) ?_
                        refine RW.done ?_
                        exact AQ.meet (_, (_ : Bool)) ⟨hle, hst, hH⟩ ⟨rfl, rfl, rfl, rfl, rfl, rfl, rfl, rfl, rfl, rfl, trivial⟩
                    · have hb78p := hb78
                      try simp only [decide_eq_true_eq, decide_eq_false_iff_not] at hb78p
                      refine RW.off_guard rfl rfl rfl rfl hb78 ?_
                      refine RW.off_guard rfl rfl rfl rfl hb78 ?_
                      refine RW.off_guard rfl rfl rfl rfl hb78 ?_
                      refine RW.op1 rfl (runs_pick_false rfl hb78 rfl) ?_
                      refine RW.op1 rfl (runs_move rfl) ?_
                      refine RW.off_guard rfl rfl rfl rfl rfl ?_
                      refine RW.off_guard rfl rfl rfl rfl rfl ?_
                      refine RW.off_guard rfl rfl rfl rfl rfl ?_
                      refine RW.op1 rfl (runs_pick_false rfl rfl rfl) ?_
                      refine RW.op1 rfl (runs_move rfl) ?_
                      refine RW.off_guard rfl rfl rfl rfl rfl ?_
                      refine RW.off_guard rfl rfl rfl rfl rfl ?_
                      refine RW.off_guard rfl rfl rfl rfl rfl ?_
                      refine RW.op1 rfl (runs_pick_false rfl rfl rfl) ?_
                      refine RW.op1 rfl (runs_move rfl) ?_
                      refine RW.off_guard rfl rfl rfl rfl rfl ?_
                      refine RW.off_guard rfl rfl rfl rfl rfl ?_
                      refine RW.off_guard rfl rfl rfl rfl rfl ?_
                      refine RW.op1 rfl (runs_pick_false rfl rfl rfl) ?_
                      refine RW.done ?_
                      exact AQ.meet (_, (_ : Bool)) ⟨hle, hst, hH⟩ ⟨rfl, rfl, rfl, rfl, rfl, rfl, rfl, rfl, rfl, rfl, trivial⟩
                  · have hb72p := hb72
                    try simp only [decide_eq_true_eq, decide_eq_false_iff_not] at hb72p
                    refine RW.off_guard rfl rfl rfl rfl hb72 ?_
                    refine RW.off_guard rfl rfl rfl rfl hb72 ?_
                    refine RW.off_guard rfl rfl rfl rfl hb72 ?_
                    refine RW.off_guard rfl rfl rfl rfl hb72 ?_
                    refine RW.op1 rfl (runs_pick_false rfl hb72 rfl) ?_
                    refine RW.op1 rfl (runs_move rfl) ?_
                    refine RW.off_guard rfl rfl rfl rfl rfl ?_
                    refine RW.off_guard rfl rfl rfl rfl rfl ?_
                    refine RW.off_guard rfl rfl rfl rfl rfl ?_
                    refine RW.op1 rfl (runs_pick_false rfl rfl rfl) ?_
                    refine RW.op1 rfl (runs_move rfl) ?_
                    refine RW.off_guard rfl rfl rfl rfl rfl ?_
                    refine RW.off_guard rfl rfl rfl rfl rfl ?_
                    refine RW.off_guard rfl rfl rfl rfl rfl ?_
                    refine RW.op1 rfl (runs_pick_false rfl rfl rfl) ?_
                    refine RW.op1 rfl (runs_move rfl) ?_
                    refine RW.off_guard rfl rfl rfl rfl rfl ?_
                    refine RW.off_guard rfl rfl rfl rfl rfl ?_
                    refine RW.off_guard rfl rfl rfl rfl rfl ?_
                    refine RW.op1 rfl (runs_pick_false rfl rfl rfl) ?_
                    refine RW.op1 rfl (runs_move rfl) ?_
                    refine RW.off_guard rfl rfl rfl rfl rfl ?_
                    refine RW.off_guard rfl rfl rfl rfl rfl ?_
                    refine RW.off_guard rfl rfl rfl rfl rfl ?_
                    refine RW.op1 rfl (runs_pick_false rfl rfl rfl) ?_
                    refine RW.done ?_
                    exact AQ.meet (_, (_ : Bool)) ⟨hle, hst, hH⟩ ⟨rfl, rfl, rfl, rfl, rfl, rfl, rfl, rfl, rfl, rfl, trivial⟩
        · have hb47p := hb47
          try simp only [decide_eq_true_eq, decide_eq_false_iff_not] at hb47p
          refine RW.off_guard rfl rfl rfl rfl hb47 ?_
          refine RW.off_guard rfl rfl rfl rfl hb47 ?_
          refine RW.off_guard rfl rfl rfl rfl hb47 ?_
          refine RW.off_guard rfl rfl rfl rfl hb47 ?_
          refine RW.off_undef rfl rfl rfl rfl ?_
          refine RW.off_undef rfl rfl rfl rfl ?_
          refine RW.off_undef rfl rfl rfl rfl ?_
          refine RW.off_guard rfl rfl rfl rfl hb47 ?_
          refine RW.off_guard rfl rfl rfl rfl hb47 ?_
          refine RW.off_undef rfl rfl rfl rfl ?_
          refine RW.off_undef rfl rfl rfl rfl ?_
          refine RW.off_undef rfl rfl rfl rfl ?_
          refine RW.off_guard rfl rfl rfl rfl hb47 ?_
          refine RW.off_guard rfl rfl rfl rfl hb47 ?_
          refine RW.off_undef rfl rfl rfl rfl ?_
          refine RW.off_undef rfl rfl rfl rfl ?_
          refine RW.off_undef rfl rfl rfl rfl ?_
          refine RW.off_guard rfl rfl rfl rfl hb47 ?_
          refine RW.off_guard rfl rfl rfl rfl hb47 ?_
          refine RW.off_undef rfl rfl rfl rfl ?_
          refine RW.off_undef rfl rfl rfl rfl ?_
          refine RW.off_undef rfl rfl rfl rfl ?_
          refine RW.off_guard rfl rfl rfl rfl hb47 ?_
          refine RW.op1 rfl (runs_pick_false rfl hb47 rfl) ?_
          refine RW.op1 rfl (runs_move rfl) ?_
          refine RW.off_guard rfl rfl rfl rfl rfl ?_
          refine RW.off_guard rfl rfl rfl rfl rfl ?_
          refine RW.off_guard rfl rfl rfl rfl rfl ?_
          refine RW.off_guard rfl rfl rfl rfl rfl ?_
          refine RW.op1 rfl (runs_pick_false rfl rfl rfl) ?_
          refine RW.op1 rfl (runs_move rfl) ?_
          refine RW.off_guard rfl rfl rfl rfl rfl ?_
          refine RW.off_guard rfl rfl rfl rfl rfl ?_
          refine RW.off_guard rfl rfl rfl rfl rfl ?_
          refine RW.op1 rfl (runs_pick_false rfl rfl rfl) ?_
          refine RW.op1 rfl (runs_move rfl) ?_
          refine RW.off_guard rfl rfl rfl rfl rfl ?_
          refine RW.off_guard rfl rfl rfl rfl rfl ?_
          refine RW.off_guard rfl rfl rfl rfl rfl ?_
          refine RW.op1 rfl (runs_pick_false rfl rfl rfl) ?_
          refine RW.op1 rfl (runs_move rfl) ?_
          refine RW.off_guard rfl rfl rfl rfl rfl ?_
          refine RW.off_guard rfl rfl rfl rfl rfl ?_
          refine RW.off_guard rfl rfl rfl rfl rfl ?_
          refine RW.op1 rfl (runs_pick_false rfl rfl rfl) ?_
          refine RW.op1 rfl (runs_move rfl) ?_
          refine RW.off_guard rfl rfl rfl rfl rfl ?_
          refine RW.off_guard rfl rfl rfl rfl rfl ?_
          refine RW.off_guard rfl rfl rfl rfl rfl ?_
          refine RW.op1 rfl (runs_pick_false rfl rfl rfl) ?_
          refine RW.done ?_
          exact AQ.meet (_, (_ : Bool)) ⟨hle, hst, hH⟩ ⟨rfl, rfl, rfl, rfl, rfl, rfl, rfl, rfl, rfl, rfl, trivial⟩
      · clear hle hst hH
        rintro ⟨J8, cb⟩ w ⟨hle, hstn, hH⟩
        dsimp only at hle hstn hH ⊢
        have hst := hstn
        clear hstn
        refine AQ.next ?_
        refine CW.cond rfl (fun hc97 => ?_) (fun hc97 => ?_)
        · have hcb97 := hc97
          try simp only [decide_eq_true_eq, decide_eq_false_iff_not] at hc97
          refine CW.exit ?_
          refine AQ.past_exit ?_
          refine AQ.block_miss rfl ?_
          refine AQ.past_exit ?_
          refine AQ.past_exit ?_
          refine AQ.block_hit ?_
          first
            | exact AQ.meet (_, me, ur, vh, hs, bo, mo, cr) ⟨hle, hst, hH, hok⟩ ⟨rfl, rfl, rfl, rfl, rfl, rfl, rfl, rfl, trivial⟩
            | exact AQ.meet (_, me, ur, vh, hs, bo, mo, cr) ⟨hle, hst.drop1, hH, hok⟩ ⟨rfl, rfl, rfl, rfl, rfl, rfl, rfl, rfl, trivial⟩
        · have hcb97 := hc97
          try simp only [decide_eq_true_eq, decide_eq_false_iff_not] at hc97
          refine CW.skip ?_
          refine AQ.next ?_
          refine CW.region ?_
          refine RW.op1 rfl (runs_move rfl) ?_
          refine RW.op1 rfl (runs_move rfl) ?_
          refine RW.call rfl call8 rfl rfl (within_spec hst (v := m) (n := 8) (hm) (by unfold i64ok; decide)) ?_
          rintro e w ⟨rfl, hstn⟩
          clear hst
          have hst := hstn
          clear hstn
          have rc8 := within_range m 8
          have rc8t := rc8.2 (by decide)
          obtain ⟨c8, hc8⟩ : ∃ z, within m 8 = z := ⟨_, rfl⟩
          rw [hc8] at rc8 rc8t ⊢
          refine ⟨_, rfl, ?_⟩
          refine RW.op1 rfl (runs_move rfl) ?_
          refine RW.op1 rfl (runs_mul rfl rfl (by omega)) ?_
          refine RW.op1 rfl (runs_add rfl rfl (by omega)) ?_
          refine RW.call rfl call34 rfl rfl (req_spec hst _ (by unfold i64ok; omega)) ?_
          rintro e w ⟨J104, me2, ur2, vh2, hs2, bo2, mo2, cr2, hJ104, rfl, hstn, hH2, hok2⟩
          clear hst
          have hst := hstn
          clear hstn
          replace hH := hH.mono hJ104
          replace hle := hle.trans hJ104
          refine ⟨_, rfl, ?_⟩
          refine RW.opE0 (runs_storeW ti32 rfl rfl hst (k := 1) rfl rfl rfl (NoFz.zero _) (req_one hH2.one)) ?_
          rintro w hstn
          clear hst
          have hst := hstn
          clear hstn
          try simp only [List.set_cons_zero, List.set_cons_succ] at hst
          refine RW.done ?_
          refine AQ.block_normal ?_
          refine AQ.next ?_
          refine CW.region ?_
          refine RW.op1 rfl (runs_move rfl) ?_
          refine RW.op1 rfl (runs_add rfl rfl (by omega)) ?_
          refine RW.op1 rfl (runs_assign rfl) ?_
          refine RW.done ?_
          exact AQ.again (x := (k, J, me, ur, vh, hs, bo, mo, cr)) (k + 1, _, me2, ur2, vh2, hs2, bo2, mo2, cr2) ⟨by dsimp only; omega, hle, hst.drop1, hH2, hok2⟩ ⟨rfl, rfl, rfl, rfl, rfl, rfl, rfl, rfl, rfl, trivial⟩ (by dsimp only; omega)
    · have hcb37 := hc37
      try simp only [decide_eq_true_eq, decide_eq_false_iff_not] at hc37
      skip
      refine CW.exit ?_
      refine AQ.past_exit ?_
      refine AQ.past_exit ?_
      refine AQ.block_hit ?_
      first
        | exact AQ.meet (_, me, ur, vh, hs, bo, mo, cr) ⟨hle, hst, hH, hok⟩ ⟨rfl, rfl, rfl, rfl, rfl, rfl, rfl, rfl, trivial⟩
        | exact AQ.meet (_, me, ur, vh, hs, bo, mo, cr) ⟨hle, hst.drop1, hH, hok⟩ ⟨rfl, rfl, rfl, rfl, rfl, rfl, rfl, rfl, trivial⟩
  · clear hle hst hH hok
    rintro ⟨J, me, ur, vh, hs, bo, mo, cr⟩ w ⟨hle, hstn, hH, hok⟩
    dsimp only at hle hstn hH hok ⊢
    have hst := hstn
    clear hstn
    refine AQ.next ?_
    refine CW.seq ?_
    refine CW.region ?_
    refine RW.op1 rfl (runs_move rfl) ?_
    refine RW.op1 rfl (runs_move rfl) ?_
    refine RW.op1 rfl (runs_quo rfl rfl (by decide)) ?_
    obtain ⟨q9, hq9⟩ : ∃ q, IntKind.i64.wrap (how.tdiv 9) = q := ⟨_, rfl⟩
    have hq9o : i64ok q9 := by rw [← hq9]; exact wrap_ok _
    rw [hq9]
    refine RW.call rfl call8 rfl rfl (within_spec hst (v := q9) (n := 3) (hq9o) (by unfold i64ok; decide)) ?_
    rintro e w ⟨rfl, hstn⟩
    clear hst
    have hst := hstn
    clear hstn
    have rck := within_range q9 3
    have rckt := rck.2 (by decide)
    obtain ⟨ck, hck⟩ : ∃ z, within q9 3 = z := ⟨_, rfl⟩
    rw [hck] at rck rckt ⊢
    refine ⟨_, rfl, ?_⟩
    refine RW.op1 rfl (runs_add rfl rfl (by omega)) ?_
    obtain ⟨kd, hkd⟩ : ∃ z, 1 + ck = z := ⟨_, rfl⟩
    rw [hkd]
    refine RW.op1 rfl (runs_assign rfl) ?_
    refine RW.done ?_
    refine AQ.next ?_
    refine CW.seq ?_
    refine CW.seq ?_
    refine CW.region ?_
    refine RW.op1 rfl (runs_move rfl) ?_
    refine RW.op1 rfl (runs_eqI rfl rfl) ?_
    refine RW.done ?_
    refine AQ.next ?_
    refine CW.cut (Imm × ByteArray × ByteArray × Value × List HRow × ByteArray × Int × Int) (fun y w => I.le y.1 ∧ St w0 w y.1 ((bq, .cells #[.string y.2.1, .string y.2.2.1, y.2.2.2.1, .string y.2.2.2.2.2.1, .int .i64 y.2.2.2.2.2.2.1, .int .i64 y.2.2.2.2.2.2.2] 32) :: (bp, .cells #[.string pg, .string csp, .int .i64 rf] 34) :: (b1, OZ) :: L) ∧ RdH y.1 y.2.2.2.1 y.2.2.2.2.1 ∧ ReqOk y.2.1 y.2.2.1 y.2.2.2.2.1 y.2.2.2.2.2.1 y.2.2.2.2.2.2.1 y.2.2.2.2.2.2.2) (fun y => [(0, .int .i64 n), (1, .int .i64 m), (2, .int .i64 how), (4, .int .i64 got), (10, .pointer (some ⟨b1, 0, none⟩)), (11, .func (.func 8) #[] #[]), (12, .pointer (some ⟨bp, 0, none⟩)), (13, .pointer (some ⟨bq, 0, none⟩)), (17, .int .i64 kd)]) ?_ ?_
    · refine CW.cond rfl (fun hc111 => ?_) (fun hc111 => ?_)
      · have hcb111 := hc111
        try simp only [decide_eq_true_eq, decide_eq_false_iff_not] at hc111
        refine CW.region ?_
        first
          | refine RW.op1 rfl (runs_fieldAddr0 rfl Try.underlying32 rfl ti9 (by decide)) ?_
          | refine RW.op1 rfl (runs_fieldAddr rfl Try.underlying32 rfl ti9 (by decide)) ?_
        first
          | refine RW.opE0 (runs_store1P ti9 rfl rfl hst (k := 0) rfl rfl (NoFz.zero _) rfl) ?_
          | refine RW.opE0 (runs_store1P ti9 rfl rfl hst (k := 1) rfl rfl (NoFz.zero _) rfl) ?_
          | refine RW.opE0 (runs_store1P ti9 rfl rfl hst (k := 2) rfl rfl (NoFz.zero _) rfl) ?_
        rintro w hstn
        clear hst
        have hst := hstn
        clear hstn
        try simp only [List.set_cons_zero, List.set_cons_succ] at hst
        first
          | refine RW.op1 rfl (runs_fieldAddr0 rfl Try.underlying32 rfl ti3 (by decide)) ?_
          | refine RW.op1 rfl (runs_fieldAddr rfl Try.underlying32 rfl ti3 (by decide)) ?_
        first
          | refine RW.opE0 (runs_store1P ti3 rfl rfl hst (k := 0) rfl rfl (NoFz.zero _) rfl) ?_
          | refine RW.opE0 (runs_store1P ti3 rfl rfl hst (k := 1) rfl rfl (NoFz.zero _) rfl) ?_
          | refine RW.opE0 (runs_store1P ti3 rfl rfl hst (k := 2) rfl rfl (NoFz.zero _) rfl) ?_
        rintro w hstn
        clear hst
        have hst := hstn
        clear hstn
        try simp only [List.set_cons_zero, List.set_cons_succ] at hst
        first
          | refine RW.op1 rfl (runs_fieldAddr0 rfl Try.underlying32 rfl ti3 (by decide)) ?_
          | refine RW.op1 rfl (runs_fieldAddr rfl Try.underlying32 rfl ti3 (by decide)) ?_
        first
          | refine RW.opE0 (runs_store1P ti3 rfl rfl hst (k := 0) rfl rfl (NoFz.zero _) rfl) ?_
          | refine RW.opE0 (runs_store1P ti3 rfl rfl hst (k := 1) rfl rfl (NoFz.zero _) rfl) ?_
          | refine RW.opE0 (runs_store1P ti3 rfl rfl hst (k := 2) rfl rfl (NoFz.zero _) rfl) ?_
        rintro w hstn
        clear hst
        have hst := hstn
        clear hstn
        try simp only [List.set_cons_zero, List.set_cons_succ] at hst
        refine RW.done ?_
        first
          | exact AQ.meet (_, (ByteArray.mk #[80, 79, 83, 84]), ur, vh, hs, bo, 1, 3) ⟨hle, hst, hH, ⟨by dsimp only; decide, hok.ur, hok.len, hok.hs, hok.bo, by dsimp only; omega, by dsimp only; omega⟩⟩ ⟨rfl, rfl, rfl, rfl, rfl, rfl, rfl, rfl, rfl, trivial⟩
          | exact AQ.meet (_, me, ur, vh, hs, bo, mo, cr) ⟨hle, hst, hH, hok⟩ ⟨rfl, rfl, rfl, rfl, rfl, rfl, rfl, rfl, rfl, trivial⟩
      · have hcb111 := hc111
        try simp only [decide_eq_true_eq, decide_eq_false_iff_not] at hc111
        refine CW.skip ?_
        first
          | exact AQ.meet (_, (ByteArray.mk #[80, 79, 83, 84]), ur, vh, hs, bo, 1, 3) ⟨hle, hst, hH, ⟨by dsimp only; decide, hok.ur, hok.len, hok.hs, hok.bo, by dsimp only; omega, by dsimp only; omega⟩⟩ ⟨rfl, rfl, rfl, rfl, rfl, rfl, rfl, rfl, rfl, trivial⟩
          | exact AQ.meet (_, me, ur, vh, hs, bo, mo, cr) ⟨hle, hst, hH, hok⟩ ⟨rfl, rfl, rfl, rfl, rfl, rfl, rfl, rfl, rfl, trivial⟩
    · clear hle hst hH hok
      rintro ⟨J, me, ur, vh, hs, bo, mo, cr⟩ w ⟨hle, hstn, hH, hok⟩
      dsimp only at hle hstn hH hok ⊢
      have hst := hstn
      clear hstn
      refine AQ.next ?_
      refine CW.seq ?_
      refine CW.seq ?_
      refine CW.region ?_
      first
        | refine RW.op1 rfl (runs_fieldAddr0 rfl Try.underlying32 rfl ti3 (by decide)) ?_
        | refine RW.op1 rfl (runs_fieldAddr rfl Try.underlying32 rfl ti3 (by decide)) ?_
      first
        | refine RW.op1 rfl (runs_load1 sc3 rfl (hst.cell_own (k := 0) rfl rfl)) ?_
        | refine RW.op1 rfl (runs_load1 sc3 rfl (hst.cell_own (k := 1) rfl rfl)) ?_
        | refine RW.op1 rfl (runs_load1 sc3 rfl (hst.cell_own (k := 2) rfl rfl)) ?_
      refine RW.op1 rfl (runs_eqI rfl rfl) ?_
      refine RW.done ?_
      refine AQ.next ?_
      refine CW.cut (Imm × ByteArray × ByteArray × Value × List HRow × ByteArray × Int × Int) (fun y w => I.le y.1 ∧ St w0 w y.1 ((bq, .cells #[.string y.2.1, .string y.2.2.1, y.2.2.2.1, .string y.2.2.2.2.2.1, .int .i64 y.2.2.2.2.2.2.1, .int .i64 y.2.2.2.2.2.2.2] 32) :: (bp, .cells #[.string pg, .string csp, .int .i64 rf] 34) :: (b1, OZ) :: L) ∧ RdH y.1 y.2.2.2.1 y.2.2.2.2.1 ∧ ReqOk y.2.1 y.2.2.1 y.2.2.2.2.1 y.2.2.2.2.2.1 y.2.2.2.2.2.2.1 y.2.2.2.2.2.2.2) (fun y => [(0, .int .i64 n), (1, .int .i64 m), (2, .int .i64 how), (4, .int .i64 got), (10, .pointer (some ⟨b1, 0, none⟩)), (11, .func (.func 8) #[] #[]), (12, .pointer (some ⟨bp, 0, none⟩)), (13, .pointer (some ⟨bq, 0, none⟩)), (17, .int .i64 kd)]) ?_ ?_
      · refine CW.cond rfl (fun hc117 => ?_) (fun hc117 => ?_)
        · have hcb117 := hc117
          try simp only [decide_eq_true_eq, decide_eq_false_iff_not] at hc117
          refine CW.seq ?_
          refine CW.region ?_
          first
            | refine RW.op1 rfl (runs_fieldAddr0 rfl Try.underlying32 rfl ti30 (by decide)) ?_
            | refine RW.op1 rfl (runs_fieldAddr rfl Try.underlying32 rfl ti30 (by decide)) ?_
          first
            | refine RW.opE0 (runs_store1P ti30 rfl rfl hst (k := 0) rfl rfl (NoFz.zero _) rfl) ?_
            | refine RW.opE0 (runs_store1P ti30 rfl rfl hst (k := 1) rfl rfl (NoFz.zero _) rfl) ?_
            | refine RW.opE0 (runs_store1P ti30 rfl rfl hst (k := 2) rfl rfl (NoFz.zero _) rfl) ?_
          rintro w hstn
          clear hst
          have hst := hstn
          clear hstn
          try simp only [List.set_cons_zero, List.set_cons_succ] at hst
          refine RW.done ?_
          refine AQ.next ?_
          refine CW.seq ?_
          refine CW.region ?_
          first
            | refine RW.op1 rfl (runs_fieldAddr0 rfl Try.underlying32 rfl ti9 (by decide)) ?_
            | refine RW.op1 rfl (runs_fieldAddr rfl Try.underlying32 rfl ti9 (by decide)) ?_
          first
            | refine RW.op1 rfl (runs_load1 sc9 rfl (hst.cell_own (k := 0) rfl rfl)) ?_
            | refine RW.op1 rfl (runs_load1 sc9 rfl (hst.cell_own (k := 1) rfl rfl)) ?_
            | refine RW.op1 rfl (runs_load1 sc9 rfl (hst.cell_own (k := 2) rfl rfl)) ?_
          refine RW.op1 rfl (runs_eqS rfl rfl) ?_
          refine RW.op1 rfl (runs_move rfl) ?_
          refine RW.split (t := 122) rfl (fun hb122 => ?_) (fun hb122 => ?_)
          · have hb122p := hb122
            try simp only [decide_eq_true_eq, decide_eq_false_iff_not] at hb122p
            refine RW.off_guard rfl rfl rfl rfl hb122 ?_
            refine RW.off_guard rfl rfl rfl rfl hb122 ?_
            refine RW.off_guard rfl rfl rfl rfl hb122 ?_
            refine RW.op1 rfl (runs_pick_true rfl hb122 rfl) ?_
            refine RW.done ?_
            refine AQ.next ?_
            refine CW.cond_true rfl ?_
            refine CW.region ?_
            first
              | refine RW.op1 rfl (runs_fieldAddr0 rfl Try.underlying32 rfl ti9 (by decide)) ?_
              | refine RW.op1 rfl (runs_fieldAddr rfl Try.underlying32 rfl ti9 (by decide)) ?_
            first
              | refine RW.opE0 (runs_store1P ti9 rfl rfl hst (k := 0) rfl rfl (NoFz.zero _) rfl) ?_
              | refine RW.opE0 (runs_store1P ti9 rfl rfl hst (k := 1) rfl rfl (NoFz.zero _) rfl) ?_
              | refine RW.opE0 (runs_store1P ti9 rfl rfl hst (k := 2) rfl rfl (NoFz.zero _) rfl) ?_
            rintro w hstn
            clear hst
            have hst := hstn
            clear hstn
            try simp only [List.set_cons_zero, List.set_cons_succ] at hst
            refine RW.done ?_
            first
              | exact AQ.meet (_, (ByteArray.mk #[80, 79, 83, 84]), ur, .slice none 0 0, [], bo, mo, cr) ⟨hle, hst, RdH.nil _, ⟨by dsimp only; decide, hok.ur, by simp, by simp, hok.bo, hok.mo, hok.cr⟩⟩ ⟨rfl, rfl, rfl, rfl, rfl, rfl, rfl, rfl, rfl, trivial⟩
              | exact AQ.meet (_, me, ur, .slice none 0 0, [], bo, mo, cr) ⟨hle, hst, RdH.nil _, ⟨hok.me, hok.ur, by simp, by simp, hok.bo, hok.mo, hok.cr⟩⟩ ⟨rfl, rfl, rfl, rfl, rfl, rfl, rfl, rfl, rfl, trivial⟩
              | exact AQ.meet (_, me, ur, vh, hs, bo, mo, cr) ⟨hle, hst, hH, hok⟩ ⟨rfl, rfl, rfl, rfl, rfl, rfl, rfl, rfl, rfl, trivial⟩
          · have hb122p := hb122
            try simp only [decide_eq_true_eq, decide_eq_false_iff_not] at hb122p
            refine RW.on_guard rfl rfl rfl rfl hb122 ?_
            first
              | refine RW.op1 rfl (runs_fieldAddr0 rfl Try.underlying32 rfl ti9 (by decide)) ?_
              | refine RW.op1 rfl (runs_fieldAddr rfl Try.underlying32 rfl ti9 (by decide)) ?_
            refine RW.on_guard rfl rfl rfl rfl hb122 ?_
            first
              | refine RW.op1 rfl (runs_load1 sc9 rfl (hst.cell_own (k := 0) rfl rfl)) ?_
              | refine RW.op1 rfl (runs_load1 sc9 rfl (hst.cell_own (k := 1) rfl rfl)) ?_
              | refine RW.op1 rfl (runs_load1 sc9 rfl (hst.cell_own (k := 2) rfl rfl)) ?_
            refine RW.on_guard rfl rfl rfl rfl hb122 ?_
            refine RW.op1 rfl (runs_eqS rfl rfl) ?_
            refine RW.op1 rfl (runs_pick_false rfl hb122 rfl) ?_
            refine RW.done ?_
            refine AQ.next ?_
            refine CW.cond rfl (fun hc126 => ?_) (fun hc126 => ?_)
            · have hcb126 := hc126
              try simp only [decide_eq_true_eq, decide_eq_false_iff_not] at hc126
              refine CW.region ?_
              first
                | refine RW.op1 rfl (runs_fieldAddr0 rfl Try.underlying32 rfl ti9 (by decide)) ?_
                | refine RW.op1 rfl (runs_fieldAddr rfl Try.underlying32 rfl ti9 (by decide)) ?_
              first
                | refine RW.opE0 (runs_store1P ti9 rfl rfl hst (k := 0) rfl rfl (NoFz.zero _) rfl) ?_
                | refine RW.opE0 (runs_store1P ti9 rfl rfl hst (k := 1) rfl rfl (NoFz.zero _) rfl) ?_
                | refine RW.opE0 (runs_store1P ti9 rfl rfl hst (k := 2) rfl rfl (NoFz.zero _) rfl) ?_
              rintro w hstn
              clear hst
              have hst := hstn
              clear hstn
              try simp only [List.set_cons_zero, List.set_cons_succ] at hst
              refine RW.done ?_
              first
                | exact AQ.meet (_, (ByteArray.mk #[80, 79, 83, 84]), ur, .slice none 0 0, [], bo, mo, cr) ⟨hle, hst, RdH.nil _, ⟨by dsimp only; decide, hok.ur, by simp, by simp, hok.bo, hok.mo, hok.cr⟩⟩ ⟨rfl, rfl, rfl, rfl, rfl, rfl, rfl, rfl, rfl, trivial⟩
                | exact AQ.meet (_, me, ur, .slice none 0 0, [], bo, mo, cr) ⟨hle, hst, RdH.nil _, ⟨hok.me, hok.ur, by simp, by simp, hok.bo, hok.mo, hok.cr⟩⟩ ⟨rfl, rfl, rfl, rfl, rfl, rfl, rfl, rfl, rfl, trivial⟩
                | exact AQ.meet (_, me, ur, vh, hs, bo, mo, cr) ⟨hle, hst, hH, hok⟩ ⟨rfl, rfl, rfl, rfl, rfl, rfl, rfl, rfl, rfl, trivial⟩
            · have hcb126 := hc126
              try simp only [decide_eq_true_eq, decide_eq_false_iff_not] at hc126
              refine CW.skip ?_
              first
                | exact AQ.meet (_, (ByteArray.mk #[80, 79, 83, 84]), ur, .slice none 0 0, [], bo, mo, cr) ⟨hle, hst, RdH.nil _, ⟨by dsimp only; decide, hok.ur, by simp, by simp, hok.bo, hok.mo, hok.cr⟩⟩ ⟨rfl, rfl, rfl, rfl, rfl, rfl, rfl, rfl, rfl, trivial⟩
                | exact AQ.meet (_, me, ur, .slice none 0 0, [], bo, mo, cr) ⟨hle, hst, RdH.nil _, ⟨hok.me, hok.ur, by simp, by simp, hok.bo, hok.mo, hok.cr⟩⟩ ⟨rfl, rfl, rfl, rfl, rfl, rfl, rfl, rfl, rfl, trivial⟩
                | exact AQ.meet (_, me, ur, vh, hs, bo, mo, cr) ⟨hle, hst, hH, hok⟩ ⟨rfl, rfl, rfl, rfl, rfl, rfl, rfl, rfl, rfl, trivial⟩
        · have hcb117 := hc117
          try simp only [decide_eq_true_eq, decide_eq_false_iff_not] at hc117
          refine CW.skip ?_
          first
            | exact AQ.meet (_, (ByteArray.mk #[80, 79, 83, 84]), ur, .slice none 0 0, [], bo, mo, cr) ⟨hle, hst, RdH.nil _, ⟨by dsimp only; decide, hok.ur, by simp, by simp, hok.bo, hok.mo, hok.cr⟩⟩ ⟨rfl, rfl, rfl, rfl, rfl, rfl, rfl, rfl, rfl, trivial⟩
            | exact AQ.meet (_, me, ur, .slice none 0 0, [], bo, mo, cr) ⟨hle, hst, RdH.nil _, ⟨hok.me, hok.ur, by simp, by simp, hok.bo, hok.mo, hok.cr⟩⟩ ⟨rfl, rfl, rfl, rfl, rfl, rfl, rfl, rfl, rfl, trivial⟩
            | exact AQ.meet (_, me, ur, vh, hs, bo, mo, cr) ⟨hle, hst, hH, hok⟩ ⟨rfl, rfl, rfl, rfl, rfl, rfl, rfl, rfl, rfl, trivial⟩
      · clear hle hst hH hok
        rintro ⟨J, me, ur, vh, hs, bo, mo, cr⟩ w ⟨hle, hstn, hH, hok⟩
        dsimp only at hle hstn hH hok ⊢
        have hst := hstn
        clear hstn
        refine AQ.next ?_
        refine CW.seq ?_
        refine CW.region ?_
        first
          | refine RW.op1 rfl (runs_fieldAddr0 rfl Try.underlying32 rfl ti9 (by decide)) ?_
          | refine RW.op1 rfl (runs_fieldAddr rfl Try.underlying32 rfl ti9 (by decide)) ?_
        first
          | refine RW.op1 rfl (runs_load1 sc9 rfl (hst.cell_own (k := 0) rfl rfl)) ?_
          | refine RW.op1 rfl (runs_load1 sc9 rfl (hst.cell_own (k := 1) rfl rfl)) ?_
          | refine RW.op1 rfl (runs_load1 sc9 rfl (hst.cell_own (k := 2) rfl rfl)) ?_
        refine RW.call rfl call35 rfl rfl (parse_spec hst ur (by have := hok.ur; omega)) ?_
        rintro e w ⟨J131, sc, ho, po, pa, qu, ok, hJ131, rfl, hstn, hz, hpz⟩
        clear hst
        have hst := hstn
        clear hstn
        replace hH := hH.mono hJ131
        replace hle := hle.trans hJ131
        refine ⟨_, rfl, ?_⟩
        refine RW.op1 rfl (runs_move rfl) ?_
        refine RW.op1 rfl (runs_extract rfl rfl) ?_
        refine RW.op1 rfl (runs_extract rfl rfl) ?_
        refine RW.opE rfl (runs_alloc ti84 hst) ?_
        rintro _ w ⟨b30, rfl, hstn⟩
        clear hst
        have hst := hstn
        clear hstn
        obtain ⟨bu, hbu⟩ : ∃ b, b = b30 := ⟨_, rfl⟩
        subst hbu
        first
          | refine RW.opE0 (runs_storeW ti84 rfl rfl hst (k := 0) rfl rfl rfl (NoFz.zero _) rfl) ?_
          | refine RW.opE0 (runs_storeP ti84 rfl rfl hst (k := 0) rfl rfl rfl (NoFz.zero _) rfl) ?_
          | refine RW.opE0 (runs_storeW ti84 rfl rfl hst (k := 1) rfl rfl rfl (NoFz.zero _) rfl) ?_
          | refine RW.opE0 (runs_storeP ti84 rfl rfl hst (k := 1) rfl rfl rfl (NoFz.zero _) rfl) ?_
          | refine RW.opE0 (runs_storeW ti84 rfl rfl hst (k := 2) rfl rfl rfl (NoFz.zero _) rfl) ?_
          | refine RW.opE0 (runs_storeP ti84 rfl rfl hst (k := 2) rfl rfl rfl (NoFz.zero _) rfl) ?_
        rintro w hstn
        clear hst
        have hst := hstn
        clear hstn
        try simp only [List.set_cons_zero, List.set_cons_succ] at hst
        refine RW.op1 rfl (runs_assign rfl) ?_
        refine RW.done ?_
        refine AQ.next ?_
        refine CW.seq ?_
        refine CW.seq ?_
        refine CW.region ?_
        first
          | refine RW.op1 rfl (runs_loadN (vs := [_, _, _]) ag34 ti34 rfl hst (k := 0) rfl rfl rfl) ?_
          | refine RW.op1 rfl (runs_loadN (vs := [_, _, _]) ag34 ti34 rfl hst (k := 1) rfl rfl rfl) ?_
          | refine RW.op1 rfl (runs_loadN (vs := [_, _, _]) ag34 ti34 rfl hst (k := 2) rfl rfl rfl) ?_
        first
          | refine RW.op1 rfl (runs_loadN (vs := [_, _, _, _, _]) ag84 ti84 rfl hst (k := 0) rfl rfl rfl) ?_
          | refine RW.op1 rfl (runs_loadN (vs := [_, _, _, _, _]) ag84 ti84 rfl hst (k := 1) rfl rfl rfl) ?_
          | refine RW.op1 rfl (runs_loadN (vs := [_, _, _, _, _]) ag84 ti84 rfl hst (k := 2) rfl rfl rfl) ?_
        refine RW.call rfl call37 rfl rfl (permits_spec hst pg csp (by omega) hcsp rf sc ho po pa qu hz) ?_
        rintro e w ⟨Jp32, pb32, hJp32, rfl, hstn⟩
        clear hst
        have hst := hstn
        clear hstn
        replace hH := hH.mono hJp32
        replace hle := hle.trans hJp32
        refine ⟨_, rfl, ?_⟩
        refine RW.op1 rfl (runs_not rfl) ?_
        refine RW.done ?_
        refine AQ.next ?_
        refine CW.cut (Imm × ByteArray) (fun y w => I.le y.1 ∧ St w0 w y.1 ((bu, .cells #[.string sc, .string ho, .int .i64 po, .string pa, .string qu] 84) :: (bq, .cells #[.string me, .string ur, vh, .string bo, .int .i64 mo, .int .i64 cr] 32) :: (bp, .cells #[.string pg, .string y.2, .int .i64 rf] 34) :: (b1, OZ) :: L) ∧ RdH y.1 vh hs ∧ CspOk y.2) (fun y => [(0, .int .i64 n), (1, .int .i64 m), (2, .int .i64 how), (4, .int .i64 got), (10, .pointer (some ⟨b1, 0, none⟩)), (11, .func (.func 8) #[] #[]), (12, .pointer (some ⟨bp, 0, none⟩)), (13, .pointer (some ⟨bq, 0, none⟩)), (17, .int .i64 kd), (18, .pointer (some ⟨bu, 0, none⟩))]) ?_ ?_
        · refine CW.cond rfl (fun hc137 => ?_) (fun hc137 => ?_)
          · have hcb137 := hc137
            try simp only [decide_eq_true_eq, decide_eq_false_iff_not] at hc137
            refine CW.region ?_
            first
              | refine RW.op1 rfl (runs_fieldAddr0 rfl Try.underlying34 rfl ti9 (by decide)) ?_
              | refine RW.op1 rfl (runs_fieldAddr rfl Try.underlying34 rfl ti9 (by decide)) ?_
            first
              | refine RW.opE0 (runs_store1P ti9 rfl rfl hst (k := 0) rfl rfl (NoFz.zero _) rfl) ?_
              | refine RW.opE0 (runs_store1P ti9 rfl rfl hst (k := 1) rfl rfl (NoFz.zero _) rfl) ?_
              | refine RW.opE0 (runs_store1P ti9 rfl rfl hst (k := 2) rfl rfl (NoFz.zero _) rfl) ?_
            rintro w hstn
            clear hst
            have hst := hstn
            clear hstn
            try simp only [List.set_cons_zero, List.set_cons_succ] at hst
            refine RW.done ?_
            first
              | exact AQ.meet (_, (ByteArray.mk #[])) ⟨hle, hst, hH, Or.inl rfl⟩ ⟨rfl, rfl, rfl, rfl, rfl, rfl, rfl, rfl, rfl, rfl, trivial⟩
              | exact AQ.meet (_, csp) ⟨hle, hst, hH, hcsp⟩ ⟨rfl, rfl, rfl, rfl, rfl, rfl, rfl, rfl, rfl, rfl, trivial⟩
          · have hcb137 := hc137
            try simp only [decide_eq_true_eq, decide_eq_false_iff_not] at hc137
            refine CW.skip ?_
            first
              | exact AQ.meet (_, (ByteArray.mk #[])) ⟨hle, hst, hH, Or.inl rfl⟩ ⟨rfl, rfl, rfl, rfl, rfl, rfl, rfl, rfl, rfl, rfl, trivial⟩
              | exact AQ.meet (_, csp) ⟨hle, hst, hH, hcsp⟩ ⟨rfl, rfl, rfl, rfl, rfl, rfl, rfl, rfl, rfl, rfl, trivial⟩
        · clear hle hst hH
          rintro ⟨J5, csp2⟩ w ⟨hle, hstn, hH, hcsp2⟩
          dsimp only at hle hstn hH hcsp2 ⊢
          have hst := hstn
          clear hstn
          refine AQ.next ?_
          refine CW.seq ?_
          refine CW.seq ?_
          refine CW.region ?_
          first
            | refine RW.op1 rfl (runs_loadN (vs := [_, _, _]) ag34 ti34 rfl hst (k := 0) rfl rfl rfl) ?_
            | refine RW.op1 rfl (runs_loadN (vs := [_, _, _]) ag34 ti34 rfl hst (k := 1) rfl rfl rfl) ?_
            | refine RW.op1 rfl (runs_loadN (vs := [_, _, _]) ag34 ti34 rfl hst (k := 2) rfl rfl rfl) ?_
          first
            | refine RW.op1 rfl (runs_loadN (vs := [_, _, _, _, _]) ag84 ti84 rfl hst (k := 0) rfl rfl rfl) ?_
            | refine RW.op1 rfl (runs_loadN (vs := [_, _, _, _, _]) ag84 ti84 rfl hst (k := 1) rfl rfl rfl) ?_
            | refine RW.op1 rfl (runs_loadN (vs := [_, _, _, _, _]) ag84 ti84 rfl hst (k := 2) rfl rfl rfl) ?_
          refine RW.call rfl call37 rfl rfl (permits_spec hst pg csp2 (by omega) hcsp2 rf sc ho po pa qu hz) ?_
          rintro e w ⟨Jp34, pb34, hJp34, rfl, hstn⟩
          clear hst
          have hst := hstn
          clear hstn
          replace hH := hH.mono hJp34
          replace hle := hle.trans hJp34
          refine ⟨_, rfl, ?_⟩
          refine RW.op1 rfl (runs_not rfl) ?_
          refine RW.done ?_
          refine AQ.next ?_
          refine CW.cut (Imm × ByteArray) (fun y w => I.le y.1 ∧ St w0 w y.1 ((bu, .cells #[.string sc, .string ho, .int .i64 po, .string pa, .string qu] 84) :: (bq, .cells #[.string me, .string ur, vh, .string bo, .int .i64 mo, .int .i64 cr] 32) :: (bp, .cells #[.string y.2, .string csp2, .int .i64 rf] 34) :: (b1, OZ) :: L) ∧ RdH y.1 vh hs ∧ y.2.size ≤ 60) (fun y => [(0, .int .i64 n), (1, .int .i64 m), (2, .int .i64 how), (4, .int .i64 got), (10, .pointer (some ⟨b1, 0, none⟩)), (11, .func (.func 8) #[] #[]), (12, .pointer (some ⟨bp, 0, none⟩)), (13, .pointer (some ⟨bq, 0, none⟩)), (17, .int .i64 kd), (18, .pointer (some ⟨bu, 0, none⟩))]) ?_ ?_
          · refine CW.cond rfl (fun hc142 => ?_) (fun hc142 => ?_)
            · have hcb142 := hc142
              try simp only [decide_eq_true_eq, decide_eq_false_iff_not] at hc142
              refine CW.region ?_
              first
                | refine RW.op1 rfl (runs_fieldAddr0 rfl Try.underlying34 rfl ti9 (by decide)) ?_
                | refine RW.op1 rfl (runs_fieldAddr rfl Try.underlying34 rfl ti9 (by decide)) ?_
              first
                | refine RW.opE0 (runs_store1P ti9 rfl rfl hst (k := 0) rfl rfl (NoFz.zero _) rfl) ?_
                | refine RW.opE0 (runs_store1P ti9 rfl rfl hst (k := 1) rfl rfl (NoFz.zero _) rfl) ?_
                | refine RW.opE0 (runs_store1P ti9 rfl rfl hst (k := 2) rfl rfl (NoFz.zero _) rfl) ?_
              rintro w hstn
              clear hst
              have hst := hstn
              clear hstn
              try simp only [List.set_cons_zero, List.set_cons_succ] at hst
              refine RW.done ?_
              first
                | exact AQ.meet (_, (ByteArray.mk #[104, 116, 116, 112, 58, 47, 47, 97, 46, 98, 47])) ⟨hle, hst, hH, by dsimp only; decide⟩ ⟨rfl, rfl, rfl, rfl, rfl, rfl, rfl, rfl, rfl, rfl, trivial⟩
                | exact AQ.meet (_, pg) ⟨hle, hst, hH, hpgz⟩ ⟨rfl, rfl, rfl, rfl, rfl, rfl, rfl, rfl, rfl, rfl, trivial⟩
            · have hcb142 := hc142
              try simp only [decide_eq_true_eq, decide_eq_false_iff_not] at hc142
              refine CW.skip ?_
              first
                | exact AQ.meet (_, (ByteArray.mk #[104, 116, 116, 112, 58, 47, 47, 97, 46, 98, 47])) ⟨hle, hst, hH, by dsimp only; decide⟩ ⟨rfl, rfl, rfl, rfl, rfl, rfl, rfl, rfl, rfl, rfl, trivial⟩
                | exact AQ.meet (_, pg) ⟨hle, hst, hH, hpgz⟩ ⟨rfl, rfl, rfl, rfl, rfl, rfl, rfl, rfl, rfl, rfl, trivial⟩
          · clear hle hst hH
            rintro ⟨J6, page⟩ w ⟨hle, hstn, hH, hpage⟩
            dsimp only at hle hstn hH hpage ⊢
            have hst := hstn
            clear hstn
            have hcz := hcsp2.sz
            obtain ⟨Ah, ch, rfl⟩ : ∃ A c, vh = .slice A hs.length c := by obtain ⟨_, _, A, c, e, _, _⟩ := hH; exact ⟨A, c, e⟩
            obtain ⟨vq, hvq⟩ : ∃ x, x = Value.slice Ah hs.length ch := ⟨_, rfl⟩
            have hHq : RdH J6 vq hs := by rw [hvq]; exact hH
            refine AQ.next ?_
            refine CW.seq ?_
            refine CW.cut (Nat × It) (fun y w => St w0 w J6 ((y.1, .cells #[.int .i64 y.2.id, .int .i64 y.2.kind, .int .i64 y.2.group, .string y.2.name, .string y.2.method, .string y.2.url, vq, .string y.2.body, .int .i64 y.2.mode, .int .i64 y.2.creds, .string y.2.page, .string y.2.csp, .int .i64 y.2.refer, .string y.2.nurl, .string y.2.nmethod, .string y.2.nbody, .int .i64 y.2.hops, .int .i64 y.2.tries, .int .i64 y.2.til, .bool y.2.tainted, .string y.2.got, .string y.2.tag, .int .i64 y.2.state, .int .i64 y.2.code, .bool y.2.acked] 36) :: (b1, OZ) :: L) ∧ ItSm y.2 ∧ y.2.id = WID ∧ y.2.heads = hs) (fun y => [(2, .int .i64 how), (4, .int .i64 got), (10, .pointer (some ⟨b1, 0, none⟩)), (11, .func (.func 8) #[] #[]), (20, .pointer (some ⟨y.1, 0, none⟩))]) ?_ ?_
            ·
              refine CW.drawSt hst (.q 0 (.q 1 (.q 4 (.q 5 (.q 6 (.q 8 (.q 9 (.q 10 (.q 12 (.q 13 (.q 14 (.q 15 (.q 16 (.q 17 (.q 18 (.q 20 (.q 21 (.q 22 (.q 24 (.q 25 (.fork (.l 2 (.q 3 (.fork (.l 7 (.fork (.l 11 (.fork (.l 19 (.fork (.l 23 (.fork (.l 26 (.q 27 (.l 28 (.l 29 .nil)))) (.l 28 (.l 26 (.q 27 (.l 29 .nil)))))) (.l 28 (.l 23 (.l 26 (.q 27 (.l 29 .nil))))))) (.l 28 (.l 19 (.l 23 (.l 26 (.q 27 (.l 29 .nil)))))))) (.l 28 (.l 11 (.l 19 (.l 23 (.l 26 (.q 27 (.l 29 .nil))))))))) (.l 28 (.l 7 (.l 11 (.l 19 (.l 23 (.l 26 (.q 27 (.l 29 .nil))))))))))) (.l 28 (.l 2 (.q 3 (.l 7 (.l 11 (.l 19 (.l 23 (.l 26 (.q 27 (.l 29 .nil))))))))))))))))))))))))))))))) follows (by kernel_rfl) (fun w hst => ?_)
              refine DRW.q rfl rfl (fun w' hF => runs_move rfl) ?_
              refine DRW.q rfl rfl (fun w' hF => runs_move rfl) ?_
              refine DRW.q rfl rfl (fun w' hF => runs_move rfl) ?_
              refine DRW.q rfl rfl (fun w' hF => runs_move rfl) ?_
              refine DRW.q rfl rfl (fun w' hF => runs_move rfl) ?_
              first
                | refine DRW.q rfl rfl (FSt.loadN (vs := [_, _, _, _, _, _]) ag32 ti32 rfl (k := 0) rfl rfl rfl) ?_
                | refine DRW.q rfl rfl (FSt.loadN (vs := [_, _, _, _, _, _]) ag32 ti32 rfl (k := 1) rfl rfl rfl) ?_
                | refine DRW.q rfl rfl (FSt.loadN (vs := [_, _, _, _, _, _]) ag32 ti32 rfl (k := 2) rfl rfl rfl) ?_
              first
                | refine DRW.q rfl rfl (FSt.loadN (vs := [_, _, _]) ag34 ti34 rfl (k := 0) rfl rfl rfl) ?_
                | refine DRW.q rfl rfl (FSt.loadN (vs := [_, _, _]) ag34 ti34 rfl (k := 1) rfl rfl rfl) ?_
                | refine DRW.q rfl rfl (FSt.loadN (vs := [_, _, _]) ag34 ti34 rfl (k := 2) rfl rfl rfl) ?_
              first
                | refine DRW.q rfl rfl (FSt.loadN (vs := [_, _, _, _, _]) ag84 ti84 rfl (k := 0) rfl rfl rfl) ?_
                | refine DRW.q rfl rfl (FSt.loadN (vs := [_, _, _, _, _]) ag84 ti84 rfl (k := 1) rfl rfl rfl) ?_
                | refine DRW.q rfl rfl (FSt.loadN (vs := [_, _, _, _, _]) ag84 ti84 rfl (k := 2) rfl rfl rfl) ?_
              first
                | refine DRW.q rfl rfl (fun w' hF => runs_fieldAddr0 rfl Try.underlying32 rfl ti9 (by decide)) ?_
                | refine DRW.q rfl rfl (fun w' hF => runs_fieldAddr rfl Try.underlying32 rfl ti9 (by decide)) ?_
              first
                | refine DRW.q rfl rfl (FSt.load1_own sc9 rfl (k := 0) rfl rfl) ?_
                | refine DRW.q rfl rfl (FSt.load1_own sc9 rfl (k := 1) rfl rfl) ?_
                | refine DRW.q rfl rfl (FSt.load1_own sc9 rfl (k := 2) rfl rfl) ?_
              first
                | refine DRW.q rfl rfl (fun w' hF => runs_fieldAddr0 rfl Try.underlying32 rfl ti9 (by decide)) ?_
                | refine DRW.q rfl rfl (fun w' hF => runs_fieldAddr rfl Try.underlying32 rfl ti9 (by decide)) ?_
              first
                | refine DRW.q rfl rfl (FSt.load1_own sc9 rfl (k := 0) rfl rfl) ?_
                | refine DRW.q rfl rfl (FSt.load1_own sc9 rfl (k := 1) rfl rfl) ?_
                | refine DRW.q rfl rfl (FSt.load1_own sc9 rfl (k := 2) rfl rfl) ?_
              refine DRW.q rfl rfl (fun w' hF => runs_move rfl) ?_
              refine DRW.q rfl rfl (fun w' hF => runs_move rfl) ?_
              refine DRW.q rfl rfl (fun w' hF => runs_quo rfl rfl (by decide)) ?_
              obtain ⟨q27, hq27⟩ : ∃ q, IntKind.i64.wrap (how.tdiv 27) = q := ⟨_, rfl⟩
              have hq27o : i64ok q27 := by rw [← hq27]; exact wrap_ok _
              rw [hq27]
              refine DRW.q rfl rfl (fun w' hF => runs_move rfl) ?_
              refine DRW.q rfl rfl (fun w' hF => runs_move rfl) ?_
              refine DRW.q rfl rfl (fun w' hF => runs_quo rfl rfl (by decide)) ?_
              obtain ⟨q7, hq7⟩ : ∃ q, IntKind.i64.wrap (how.tdiv 7) = q := ⟨_, rfl⟩
              have hq7o : i64ok q7 := by rw [← hq7]; exact wrap_ok _
              rw [hq7]
              refine DRW.q rfl rfl (fun w' hF => runs_move rfl) ?_
              refine DRW.q rfl rfl (fun w' hF => runs_move rfl) ?_
              refine DRW.fork ?_ ?_
              · refine DRW.call rfl rfl call8 rfl rfl (within_spec hst (v := how) (n := 9) (hhow) (by unfold i64ok; decide)) ?_
                rintro e w ⟨rfl, hstn⟩
                clear hst
                have hst := hstn
                clear hstn
                have rcid := within_range how 9
                have rcidt := rcid.2 (by decide)
                obtain ⟨cid, hcid⟩ : ∃ z, within how 9 = z := ⟨_, rfl⟩
                rw [hcid] at rcid rcidt ⊢
                refine ⟨_, rfl, FSt.of hst (Imm.le.refl _) (by first | exact (List.sublist_cons_self _ _).trans (List.sublist_append_right _ _) | exact List.Sublist.refl _ | exact List.sublist_cons_self _ _ | exact List.sublist_append_right _ _ | exact (List.sublist_cons_self _ _).trans (List.sublist_cons_self _ _) | exact (List.sublist_append_right _ _).trans (List.sublist_cons_self _ _) | simp), ?_⟩
                refine DRW.q rfl rfl (fun w' hF => runs_add rfl rfl (by omega)) ?_
                obtain ⟨iid, hiid⟩ : ∃ z, 1 + cid = z := ⟨_, rfl⟩
                rw [hiid]
                refine DRW.fork ?_ ?_
                · refine DRW.call rfl rfl call8 rfl rfl (within_spec hst (v := how) (n := 3) (hhow) (by unfold i64ok; decide)) ?_
                  rintro e w ⟨rfl, hstn⟩
                  clear hst
                  have hst := hstn
                  clear hstn
                  have rcg := within_range how 3
                  have rcgt := rcg.2 (by decide)
                  obtain ⟨cg, hcg⟩ : ∃ z, within how 3 = z := ⟨_, rfl⟩
                  rw [hcg] at rcg rcgt ⊢
                  refine ⟨_, rfl, FSt.of hst (Imm.le.refl _) (by first | exact (List.sublist_cons_self _ _).trans (List.sublist_append_right _ _) | exact List.Sublist.refl _ | exact List.sublist_cons_self _ _ | exact List.sublist_append_right _ _ | exact (List.sublist_cons_self _ _).trans (List.sublist_cons_self _ _) | exact (List.sublist_append_right _ _).trans (List.sublist_cons_self _ _) | simp), ?_⟩
                  refine DRW.fork ?_ ?_
                  · refine DRW.call rfl rfl call38 rfl rfl (uprint_spec hst sc ho po pa qu hz) ?_
                    rintro e w ⟨rfl, hstn⟩
                    clear hst
                    have hst := hstn
                    clear hstn
                    obtain ⟨nu, hnu⟩ : ∃ x, printR sc ho po pa qu = x := ⟨_, rfl⟩
                    rw [hnu] at hpz ⊢
                    refine ⟨_, rfl, FSt.of hst (Imm.le.refl _) (by first | exact (List.sublist_cons_self _ _).trans (List.sublist_append_right _ _) | exact List.Sublist.refl _ | exact List.sublist_cons_self _ _ | exact List.sublist_append_right _ _ | exact (List.sublist_cons_self _ _).trans (List.sublist_cons_self _ _) | exact (List.sublist_append_right _ _).trans (List.sublist_cons_self _ _) | simp), ?_⟩
                    refine DRW.fork ?_ ?_
                    · refine DRW.call rfl rfl call8 rfl rfl (within_spec hst (v := q27) (n := 6) (hq27o) (by unfold i64ok; decide)) ?_
                      rintro e w ⟨rfl, hstn⟩
                      clear hst
                      have hst := hstn
                      clear hstn
                      have rchp := within_range q27 6
                      have rchpt := rchp.2 (by decide)
                      obtain ⟨chp, hchp⟩ : ∃ z, within q27 6 = z := ⟨_, rfl⟩
                      rw [hchp] at rchp rchpt ⊢
                      refine ⟨_, rfl, FSt.of hst (Imm.le.refl _) (by first | exact (List.sublist_cons_self _ _).trans (List.sublist_append_right _ _) | exact List.Sublist.refl _ | exact List.sublist_cons_self _ _ | exact List.sublist_append_right _ _ | exact (List.sublist_cons_self _ _).trans (List.sublist_cons_self _ _) | exact (List.sublist_append_right _ _).trans (List.sublist_cons_self _ _) | simp), ?_⟩
                      refine DRW.fork ?_ ?_
                      · refine DRW.call rfl rfl call8 rfl rfl (within_spec hst (v := q7) (n := 5) (hq7o) (by unfold i64ok; decide)) ?_
                        rintro e w ⟨rfl, hstn⟩
                        clear hst
                        have hst := hstn
                        clear hstn
                        have rct := within_range q7 5
                        have rctt := rct.2 (by decide)
                        obtain ⟨ct, hct⟩ : ∃ z, within q7 5 = z := ⟨_, rfl⟩
                        rw [hct] at rct rctt ⊢
                        refine ⟨_, rfl, FSt.of hst (Imm.le.refl _) (by first | exact (List.sublist_cons_self _ _).trans (List.sublist_append_right _ _) | exact List.Sublist.refl _ | exact List.sublist_cons_self _ _ | exact List.sublist_append_right _ _ | exact (List.sublist_cons_self _ _).trans (List.sublist_cons_self _ _) | exact (List.sublist_append_right _ _).trans (List.sublist_cons_self _ _) | simp), ?_⟩
                        refine DRW.fork ?_ ?_
                        · refine DRW.call rfl rfl call8 rfl rfl (within_spec hst (v := how) (n := 20) (hhow) (by unfold i64ok; decide)) ?_
                          rintro e w ⟨rfl, hstn⟩
                          clear hst
                          have hst := hstn
                          clear hstn
                          have rcu := within_range how 20
                          have rcut := rcu.2 (by decide)
                          obtain ⟨cu, hcu⟩ : ∃ z, within how 20 = z := ⟨_, rfl⟩
                          rw [hcu] at rcu rcut ⊢
                          refine ⟨_, rfl, FSt.of hst (Imm.le.refl _) (by first | exact (List.sublist_cons_self _ _).trans (List.sublist_append_right _ _) | exact List.Sublist.refl _ | exact List.sublist_cons_self _ _ | exact List.sublist_append_right _ _ | exact (List.sublist_cons_self _ _).trans (List.sublist_cons_self _ _) | exact (List.sublist_append_right _ _).trans (List.sublist_cons_self _ _) | simp), ?_⟩
                          refine DRW.q rfl rfl (fun w' hF => runs_buildF (xs := [.int .i64 iid, .int .i64 kd, .int .i64 cg, .agg #[.string me, .string ur, .slice Ah hs.length ch, .string bo, .int .i64 mo, .int .i64 cr], .agg #[.string page, .string csp2, .int .i64 rf], .string nu, .string me, .string bo, .int .i64 chp, .int .i64 ct, .int .i64 cu]) (cells := [.int .i64 iid, .int .i64 kd, .int .i64 cg, .string (ByteArray.mk #[]), .string me, .string ur, .slice Ah hs.length ch, .string bo, .int .i64 mo, .int .i64 cr, .string page, .string csp2, .int .i64 rf, .string nu, .string me, .string bo, .int .i64 chp, .int .i64 ct, .int .i64 cu, .bool false, .string (ByteArray.mk #[]), .string (ByteArray.mk #[]), .int .i64 0, .int .i64 0, .bool false]) bz36 (by kernel_rfl) rfl rfl rfl (by kernel_rfl)) ?_
                          refine DRW.opE rfl rfl (runs_alloc ti36 hst) ?_
                          rintro _ w ⟨b42, rfl, hstn⟩
                          clear hst
                          have hst := hstn
                          clear hstn
                          refine ⟨FSt.of hst (Imm.le.refl _) (by first | exact (List.sublist_cons_self _ _).trans (List.sublist_append_right _ _) | exact List.Sublist.refl _ | exact List.sublist_cons_self _ _ | exact List.sublist_append_right _ _ | exact (List.sublist_cons_self _ _).trans (List.sublist_cons_self _ _) | exact (List.sublist_append_right _ _).trans (List.sublist_cons_self _ _) | simp), ?_⟩
                          obtain ⟨bi, hbi⟩ : ∃ b, b = b42 := ⟨_, rfl⟩
                          subst hbi
                          first
                            | refine DRW.opE0 rfl (runs_storeW ti36 rfl rfl hst (k := 0) rfl rfl rfl (NoFz.zero _) rfl) ?_
                            | refine DRW.opE0 rfl (runs_storeP ti36 rfl rfl hst (k := 0) rfl rfl rfl (NoFz.zero _) rfl) ?_
                            | refine DRW.opE0 rfl (runs_storeW ti36 rfl rfl hst (k := 1) rfl rfl rfl (NoFz.zero _) rfl) ?_
                            | refine DRW.opE0 rfl (runs_storeP ti36 rfl rfl hst (k := 1) rfl rfl rfl (NoFz.zero _) rfl) ?_
                            | refine DRW.opE0 rfl (runs_storeW ti36 rfl rfl hst (k := 2) rfl rfl rfl (NoFz.zero _) rfl) ?_
                            | refine DRW.opE0 rfl (runs_storeP ti36 rfl rfl hst (k := 2) rfl rfl rfl (NoFz.zero _) rfl) ?_
                          rintro w hstn
                          clear hst
                          have hst := hstn
                          clear hstn
                          try simp only [List.set_cons_zero, List.set_cons_succ] at hst
                          refine ⟨FSt.of hst (Imm.le.refl _) (by first | exact (List.sublist_cons_self _ _).trans (List.sublist_append_right _ _) | exact List.Sublist.refl _ | exact List.sublist_cons_self _ _ | exact List.sublist_append_right _ _ | exact (List.sublist_cons_self _ _).trans (List.sublist_cons_self _ _) | exact (List.sublist_append_right _ _).trans (List.sublist_cons_self _ _) | simp), ?_⟩
                          obtain ⟨it, hit⟩ : ∃ it : It, it = ⟨iid, kd, cg, (ByteArray.mk #[]), me, ur, hs, bo, mo, cr, page, csp2, rf, nu, me, bo, chp, ct, cu, false, (ByteArray.mk #[]), (ByteArray.mk #[]), 0, 0, false⟩ := ⟨_, rfl⟩
                          have hsm : ItSm it := by
                            have o1 := hok.me
                            have o2 := hok.ur
                            have o3 := hok.bo
                            have o4 := hok.mo
                            have o5 := hok.cr
                            rw [hit]
                            refine ⟨?_, ?_, ?_, ?_, ?_, ?_, ?_, ?_, ?_, ?_, ?_, ?_, ?_, ?_, ?_, ?_, ?_, ?_, ?_, ?_, ?_, ?_, hok.len, hok.hs⟩ <;> dsimp only <;> first | omega | decide
                          have hid : it.id = WID := by rw [hit, hWID, hcid]; exact hiid.symm
                          have hhs : it.heads = hs := by rw [hit]
                          have hst2 : St w0 w J6 ((bi, .cells #[.int .i64 it.id, .int .i64 it.kind, .int .i64 it.group, .string it.name, .string it.method, .string it.url, vq, .string it.body, .int .i64 it.mode, .int .i64 it.creds, .string it.page, .string it.csp, .int .i64 it.refer, .string it.nurl, .string it.nmethod, .string it.nbody, .int .i64 it.hops, .int .i64 it.tries, .int .i64 it.til, .bool it.tainted, .string it.got, .string it.tag, .int .i64 it.state, .int .i64 it.code, .bool it.acked] 36) :: (b1, OZ) :: L) := by rw [hit, hvq]; exact hst.sub (List.Sublist.cons_cons _ (List.Sublist.cons _ (List.Sublist.cons _ (List.Sublist.cons _ (List.Sublist.refl _)))))
                          clear hst hit
                          have hst := hst2
                          clear hst2
                          refine DRW.done ?_
                          exact AQ.meet (bi, it) ⟨hst, hsm, hid, hhs⟩ ⟨rfl, rfl, rfl, rfl, rfl, trivial⟩
                        refine DRW.opE rfl rfl (runs_alloc ti36 hst) ?_
                        rintro _ w ⟨b44, rfl, hstn⟩
                        clear hst
                        have hst := hstn
                        clear hstn
                        refine ⟨FSt.of hst (Imm.le.refl _) (by first | exact (List.sublist_cons_self _ _).trans (List.sublist_append_right _ _) | exact List.Sublist.refl _ | exact List.sublist_cons_self _ _ | exact List.sublist_append_right _ _ | exact (List.sublist_cons_self _ _).trans (List.sublist_cons_self _ _) | exact (List.sublist_append_right _ _).trans (List.sublist_cons_self _ _) | simp), ?_⟩
                        obtain ⟨bi, hbi⟩ : ∃ b, b = b44 := ⟨_, rfl⟩
                        subst hbi
                        refine DRW.call rfl rfl call8 rfl rfl (within_spec hst (v := how) (n := 20) (hhow) (by unfold i64ok; decide)) ?_
                        rintro e w ⟨rfl, hstn⟩
                        clear hst
                        have hst := hstn
                        clear hstn
                        have rcu := within_range how 20
                        have rcut := rcu.2 (by decide)
                        obtain ⟨cu, hcu⟩ : ∃ z, within how 20 = z := ⟨_, rfl⟩
                        rw [hcu] at rcu rcut ⊢
                        refine ⟨_, rfl, FSt.of hst (Imm.le.refl _) (by first | exact (List.sublist_cons_self _ _).trans (List.sublist_append_right _ _) | exact List.Sublist.refl _ | exact List.sublist_cons_self _ _ | exact List.sublist_append_right _ _ | exact (List.sublist_cons_self _ _).trans (List.sublist_cons_self _ _) | exact (List.sublist_append_right _ _).trans (List.sublist_cons_self _ _) | simp), ?_⟩
                        refine DRW.q rfl rfl (fun w' hF => runs_buildF (xs := [.int .i64 iid, .int .i64 kd, .int .i64 cg, .agg #[.string me, .string ur, .slice Ah hs.length ch, .string bo, .int .i64 mo, .int .i64 cr], .agg #[.string page, .string csp2, .int .i64 rf], .string nu, .string me, .string bo, .int .i64 chp, .int .i64 ct, .int .i64 cu]) (cells := [.int .i64 iid, .int .i64 kd, .int .i64 cg, .string (ByteArray.mk #[]), .string me, .string ur, .slice Ah hs.length ch, .string bo, .int .i64 mo, .int .i64 cr, .string page, .string csp2, .int .i64 rf, .string nu, .string me, .string bo, .int .i64 chp, .int .i64 ct, .int .i64 cu, .bool false, .string (ByteArray.mk #[]), .string (ByteArray.mk #[]), .int .i64 0, .int .i64 0, .bool false]) bz36 (by kernel_rfl) rfl rfl rfl (by kernel_rfl)) ?_
                        first
                          | refine DRW.opE0 rfl (runs_storeW ti36 rfl rfl hst (k := 0) rfl rfl rfl (NoFz.zero _) rfl) ?_
                          | refine DRW.opE0 rfl (runs_storeP ti36 rfl rfl hst (k := 0) rfl rfl rfl (NoFz.zero _) rfl) ?_
                          | refine DRW.opE0 rfl (runs_storeW ti36 rfl rfl hst (k := 1) rfl rfl rfl (NoFz.zero _) rfl) ?_
                          | refine DRW.opE0 rfl (runs_storeP ti36 rfl rfl hst (k := 1) rfl rfl rfl (NoFz.zero _) rfl) ?_
                          | refine DRW.opE0 rfl (runs_storeW ti36 rfl rfl hst (k := 2) rfl rfl rfl (NoFz.zero _) rfl) ?_
                          | refine DRW.opE0 rfl (runs_storeP ti36 rfl rfl hst (k := 2) rfl rfl rfl (NoFz.zero _) rfl) ?_
                        rintro w hstn
                        clear hst
                        have hst := hstn
                        clear hstn
                        try simp only [List.set_cons_zero, List.set_cons_succ] at hst
                        refine ⟨FSt.of hst (Imm.le.refl _) (by first | exact (List.sublist_cons_self _ _).trans (List.sublist_append_right _ _) | exact List.Sublist.refl _ | exact List.sublist_cons_self _ _ | exact List.sublist_append_right _ _ | exact (List.sublist_cons_self _ _).trans (List.sublist_cons_self _ _) | exact (List.sublist_append_right _ _).trans (List.sublist_cons_self _ _) | simp), ?_⟩
                        obtain ⟨it, hit⟩ : ∃ it : It, it = ⟨iid, kd, cg, (ByteArray.mk #[]), me, ur, hs, bo, mo, cr, page, csp2, rf, nu, me, bo, chp, ct, cu, false, (ByteArray.mk #[]), (ByteArray.mk #[]), 0, 0, false⟩ := ⟨_, rfl⟩
                        have hsm : ItSm it := by
                          have o1 := hok.me
                          have o2 := hok.ur
                          have o3 := hok.bo
                          have o4 := hok.mo
                          have o5 := hok.cr
                          rw [hit]
                          refine ⟨?_, ?_, ?_, ?_, ?_, ?_, ?_, ?_, ?_, ?_, ?_, ?_, ?_, ?_, ?_, ?_, ?_, ?_, ?_, ?_, ?_, ?_, hok.len, hok.hs⟩ <;> dsimp only <;> first | omega | decide
                        have hid : it.id = WID := by rw [hit, hWID, hcid]; exact hiid.symm
                        have hhs : it.heads = hs := by rw [hit]
                        have hst2 : St w0 w J6 ((bi, .cells #[.int .i64 it.id, .int .i64 it.kind, .int .i64 it.group, .string it.name, .string it.method, .string it.url, vq, .string it.body, .int .i64 it.mode, .int .i64 it.creds, .string it.page, .string it.csp, .int .i64 it.refer, .string it.nurl, .string it.nmethod, .string it.nbody, .int .i64 it.hops, .int .i64 it.tries, .int .i64 it.til, .bool it.tainted, .string it.got, .string it.tag, .int .i64 it.state, .int .i64 it.code, .bool it.acked] 36) :: (b1, OZ) :: L) := by rw [hit, hvq]; exact hst.sub (List.Sublist.cons_cons _ (List.Sublist.cons _ (List.Sublist.cons _ (List.Sublist.cons _ (List.Sublist.refl _)))))
                        clear hst hit
                        have hst := hst2
                        clear hst2
                        refine DRW.done ?_
                        exact AQ.meet (bi, it) ⟨hst, hsm, hid, hhs⟩ ⟨rfl, rfl, rfl, rfl, rfl, trivial⟩
                      refine DRW.opE rfl rfl (runs_alloc ti36 hst) ?_
                      rintro _ w ⟨b47, rfl, hstn⟩
                      clear hst
                      have hst := hstn
                      clear hstn
                      refine ⟨FSt.of hst (Imm.le.refl _) (by first | exact (List.sublist_cons_self _ _).trans (List.sublist_append_right _ _) | exact List.Sublist.refl _ | exact List.sublist_cons_self _ _ | exact List.sublist_append_right _ _ | exact (List.sublist_cons_self _ _).trans (List.sublist_cons_self _ _) | exact (List.sublist_append_right _ _).trans (List.sublist_cons_self _ _) | simp), ?_⟩
                      obtain ⟨bi, hbi⟩ : ∃ b, b = b47 := ⟨_, rfl⟩
                      subst hbi
                      refine DRW.call rfl rfl call8 rfl rfl (within_spec hst (v := q7) (n := 5) (hq7o) (by unfold i64ok; decide)) ?_
                      rintro e w ⟨rfl, hstn⟩
                      clear hst
                      have hst := hstn
                      clear hstn
                      have rct := within_range q7 5
                      have rctt := rct.2 (by decide)
                      obtain ⟨ct, hct⟩ : ∃ z, within q7 5 = z := ⟨_, rfl⟩
                      rw [hct] at rct rctt ⊢
                      refine ⟨_, rfl, FSt.of hst (Imm.le.refl _) (by first | exact (List.sublist_cons_self _ _).trans (List.sublist_append_right _ _) | exact List.Sublist.refl _ | exact List.sublist_cons_self _ _ | exact List.sublist_append_right _ _ | exact (List.sublist_cons_self _ _).trans (List.sublist_cons_self _ _) | exact (List.sublist_append_right _ _).trans (List.sublist_cons_self _ _) | simp), ?_⟩
                      refine DRW.call rfl rfl call8 rfl rfl (within_spec hst (v := how) (n := 20) (hhow) (by unfold i64ok; decide)) ?_
                      rintro e w ⟨rfl, hstn⟩
                      clear hst
                      have hst := hstn
                      clear hstn
                      have rcu := within_range how 20
                      have rcut := rcu.2 (by decide)
                      obtain ⟨cu, hcu⟩ : ∃ z, within how 20 = z := ⟨_, rfl⟩
                      rw [hcu] at rcu rcut ⊢
                      refine ⟨_, rfl, FSt.of hst (Imm.le.refl _) (by first | exact (List.sublist_cons_self _ _).trans (List.sublist_append_right _ _) | exact List.Sublist.refl _ | exact List.sublist_cons_self _ _ | exact List.sublist_append_right _ _ | exact (List.sublist_cons_self _ _).trans (List.sublist_cons_self _ _) | exact (List.sublist_append_right _ _).trans (List.sublist_cons_self _ _) | simp), ?_⟩
                      refine DRW.q rfl rfl (fun w' hF => runs_buildF (xs := [.int .i64 iid, .int .i64 kd, .int .i64 cg, .agg #[.string me, .string ur, .slice Ah hs.length ch, .string bo, .int .i64 mo, .int .i64 cr], .agg #[.string page, .string csp2, .int .i64 rf], .string nu, .string me, .string bo, .int .i64 chp, .int .i64 ct, .int .i64 cu]) (cells := [.int .i64 iid, .int .i64 kd, .int .i64 cg, .string (ByteArray.mk #[]), .string me, .string ur, .slice Ah hs.length ch, .string bo, .int .i64 mo, .int .i64 cr, .string page, .string csp2, .int .i64 rf, .string nu, .string me, .string bo, .int .i64 chp, .int .i64 ct, .int .i64 cu, .bool false, .string (ByteArray.mk #[]), .string (ByteArray.mk #[]), .int .i64 0, .int .i64 0, .bool false]) bz36 (by kernel_rfl) rfl rfl rfl (by kernel_rfl)) ?_
                      first
                        | refine DRW.opE0 rfl (runs_storeW ti36 rfl rfl hst (k := 0) rfl rfl rfl (NoFz.zero _) rfl) ?_
                        | refine DRW.opE0 rfl (runs_storeP ti36 rfl rfl hst (k := 0) rfl rfl rfl (NoFz.zero _) rfl) ?_
                        | refine DRW.opE0 rfl (runs_storeW ti36 rfl rfl hst (k := 1) rfl rfl rfl (NoFz.zero _) rfl) ?_
                        | refine DRW.opE0 rfl (runs_storeP ti36 rfl rfl hst (k := 1) rfl rfl rfl (NoFz.zero _) rfl) ?_
                        | refine DRW.opE0 rfl (runs_storeW ti36 rfl rfl hst (k := 2) rfl rfl rfl (NoFz.zero _) rfl) ?_
                        | refine DRW.opE0 rfl (runs_storeP ti36 rfl rfl hst (k := 2) rfl rfl rfl (NoFz.zero _) rfl) ?_
                      rintro w hstn
                      clear hst
                      have hst := hstn
                      clear hstn
                      try simp only [List.set_cons_zero, List.set_cons_succ] at hst
                      refine ⟨FSt.of hst (Imm.le.refl _) (by first | exact (List.sublist_cons_self _ _).trans (List.sublist_append_right _ _) | exact List.Sublist.refl _ | exact List.sublist_cons_self _ _ | exact List.sublist_append_right _ _ | exact (List.sublist_cons_self _ _).trans (List.sublist_cons_self _ _) | exact (List.sublist_append_right _ _).trans (List.sublist_cons_self _ _) | simp), ?_⟩
                      obtain ⟨it, hit⟩ : ∃ it : It, it = ⟨iid, kd, cg, (ByteArray.mk #[]), me, ur, hs, bo, mo, cr, page, csp2, rf, nu, me, bo, chp, ct, cu, false, (ByteArray.mk #[]), (ByteArray.mk #[]), 0, 0, false⟩ := ⟨_, rfl⟩
                      have hsm : ItSm it := by
                        have o1 := hok.me
                        have o2 := hok.ur
                        have o3 := hok.bo
                        have o4 := hok.mo
                        have o5 := hok.cr
                        rw [hit]
                        refine ⟨?_, ?_, ?_, ?_, ?_, ?_, ?_, ?_, ?_, ?_, ?_, ?_, ?_, ?_, ?_, ?_, ?_, ?_, ?_, ?_, ?_, ?_, hok.len, hok.hs⟩ <;> dsimp only <;> first | omega | decide
                      have hid : it.id = WID := by rw [hit, hWID, hcid]; exact hiid.symm
                      have hhs : it.heads = hs := by rw [hit]
                      have hst2 : St w0 w J6 ((bi, .cells #[.int .i64 it.id, .int .i64 it.kind, .int .i64 it.group, .string it.name, .string it.method, .string it.url, vq, .string it.body, .int .i64 it.mode, .int .i64 it.creds, .string it.page, .string it.csp, .int .i64 it.refer, .string it.nurl, .string it.nmethod, .string it.nbody, .int .i64 it.hops, .int .i64 it.tries, .int .i64 it.til, .bool it.tainted, .string it.got, .string it.tag, .int .i64 it.state, .int .i64 it.code, .bool it.acked] 36) :: (b1, OZ) :: L) := by rw [hit, hvq]; exact hst.sub (List.Sublist.cons_cons _ (List.Sublist.cons _ (List.Sublist.cons _ (List.Sublist.cons _ (List.Sublist.refl _)))))
                      clear hst hit
                      have hst := hst2
                      clear hst2
                      refine DRW.done ?_
                      exact AQ.meet (bi, it) ⟨hst, hsm, hid, hhs⟩ ⟨rfl, rfl, rfl, rfl, rfl, trivial⟩
                    refine DRW.opE rfl rfl (runs_alloc ti36 hst) ?_
                    rintro _ w ⟨b51, rfl, hstn⟩
                    clear hst
                    have hst := hstn
                    clear hstn
                    refine ⟨FSt.of hst (Imm.le.refl _) (by first | exact (List.sublist_cons_self _ _).trans (List.sublist_append_right _ _) | exact List.Sublist.refl _ | exact List.sublist_cons_self _ _ | exact List.sublist_append_right _ _ | exact (List.sublist_cons_self _ _).trans (List.sublist_cons_self _ _) | exact (List.sublist_append_right _ _).trans (List.sublist_cons_self _ _) | simp), ?_⟩
                    obtain ⟨bi, hbi⟩ : ∃ b, b = b51 := ⟨_, rfl⟩
                    subst hbi
                    refine DRW.call rfl rfl call8 rfl rfl (within_spec hst (v := q27) (n := 6) (hq27o) (by unfold i64ok; decide)) ?_
                    rintro e w ⟨rfl, hstn⟩
                    clear hst
                    have hst := hstn
                    clear hstn
                    have rchp := within_range q27 6
                    have rchpt := rchp.2 (by decide)
                    obtain ⟨chp, hchp⟩ : ∃ z, within q27 6 = z := ⟨_, rfl⟩
                    rw [hchp] at rchp rchpt ⊢
                    refine ⟨_, rfl, FSt.of hst (Imm.le.refl _) (by first | exact (List.sublist_cons_self _ _).trans (List.sublist_append_right _ _) | exact List.Sublist.refl _ | exact List.sublist_cons_self _ _ | exact List.sublist_append_right _ _ | exact (List.sublist_cons_self _ _).trans (List.sublist_cons_self _ _) | exact (List.sublist_append_right _ _).trans (List.sublist_cons_self _ _) | simp), ?_⟩
                    refine DRW.call rfl rfl call8 rfl rfl (within_spec hst (v := q7) (n := 5) (hq7o) (by unfold i64ok; decide)) ?_
                    rintro e w ⟨rfl, hstn⟩
                    clear hst
                    have hst := hstn
                    clear hstn
                    have rct := within_range q7 5
                    have rctt := rct.2 (by decide)
                    obtain ⟨ct, hct⟩ : ∃ z, within q7 5 = z := ⟨_, rfl⟩
                    rw [hct] at rct rctt ⊢
                    refine ⟨_, rfl, FSt.of hst (Imm.le.refl _) (by first | exact (List.sublist_cons_self _ _).trans (List.sublist_append_right _ _) | exact List.Sublist.refl _ | exact List.sublist_cons_self _ _ | exact List.sublist_append_right _ _ | exact (List.sublist_cons_self _ _).trans (List.sublist_cons_self _ _) | exact (List.sublist_append_right _ _).trans (List.sublist_cons_self _ _) | simp), ?_⟩
                    refine DRW.call rfl rfl call8 rfl rfl (within_spec hst (v := how) (n := 20) (hhow) (by unfold i64ok; decide)) ?_
                    rintro e w ⟨rfl, hstn⟩
                    clear hst
                    have hst := hstn
                    clear hstn
                    have rcu := within_range how 20
                    have rcut := rcu.2 (by decide)
                    obtain ⟨cu, hcu⟩ : ∃ z, within how 20 = z := ⟨_, rfl⟩
                    rw [hcu] at rcu rcut ⊢
                    refine ⟨_, rfl, FSt.of hst (Imm.le.refl _) (by first | exact (List.sublist_cons_self _ _).trans (List.sublist_append_right _ _) | exact List.Sublist.refl _ | exact List.sublist_cons_self _ _ | exact List.sublist_append_right _ _ | exact (List.sublist_cons_self _ _).trans (List.sublist_cons_self _ _) | exact (List.sublist_append_right _ _).trans (List.sublist_cons_self _ _) | simp), ?_⟩
                    refine DRW.q rfl rfl (fun w' hF => runs_buildF (xs := [.int .i64 iid, .int .i64 kd, .int .i64 cg, .agg #[.string me, .string ur, .slice Ah hs.length ch, .string bo, .int .i64 mo, .int .i64 cr], .agg #[.string page, .string csp2, .int .i64 rf], .string nu, .string me, .string bo, .int .i64 chp, .int .i64 ct, .int .i64 cu]) (cells := [.int .i64 iid, .int .i64 kd, .int .i64 cg, .string (ByteArray.mk #[]), .string me, .string ur, .slice Ah hs.length ch, .string bo, .int .i64 mo, .int .i64 cr, .string page, .string csp2, .int .i64 rf, .string nu, .string me, .string bo, .int .i64 chp, .int .i64 ct, .int .i64 cu, .bool false, .string (ByteArray.mk #[]), .string (ByteArray.mk #[]), .int .i64 0, .int .i64 0, .bool false]) bz36 (by kernel_rfl) rfl rfl rfl (by kernel_rfl)) ?_
                    first
                      | refine DRW.opE0 rfl (runs_storeW ti36 rfl rfl hst (k := 0) rfl rfl rfl (NoFz.zero _) rfl) ?_
                      | refine DRW.opE0 rfl (runs_storeP ti36 rfl rfl hst (k := 0) rfl rfl rfl (NoFz.zero _) rfl) ?_
                      | refine DRW.opE0 rfl (runs_storeW ti36 rfl rfl hst (k := 1) rfl rfl rfl (NoFz.zero _) rfl) ?_
                      | refine DRW.opE0 rfl (runs_storeP ti36 rfl rfl hst (k := 1) rfl rfl rfl (NoFz.zero _) rfl) ?_
                      | refine DRW.opE0 rfl (runs_storeW ti36 rfl rfl hst (k := 2) rfl rfl rfl (NoFz.zero _) rfl) ?_
                      | refine DRW.opE0 rfl (runs_storeP ti36 rfl rfl hst (k := 2) rfl rfl rfl (NoFz.zero _) rfl) ?_
                    rintro w hstn
                    clear hst
                    have hst := hstn
                    clear hstn
                    try simp only [List.set_cons_zero, List.set_cons_succ] at hst
                    refine ⟨FSt.of hst (Imm.le.refl _) (by first | exact (List.sublist_cons_self _ _).trans (List.sublist_append_right _ _) | exact List.Sublist.refl _ | exact List.sublist_cons_self _ _ | exact List.sublist_append_right _ _ | exact (List.sublist_cons_self _ _).trans (List.sublist_cons_self _ _) | exact (List.sublist_append_right _ _).trans (List.sublist_cons_self _ _) | simp), ?_⟩
                    obtain ⟨it, hit⟩ : ∃ it : It, it = ⟨iid, kd, cg, (ByteArray.mk #[]), me, ur, hs, bo, mo, cr, page, csp2, rf, nu, me, bo, chp, ct, cu, false, (ByteArray.mk #[]), (ByteArray.mk #[]), 0, 0, false⟩ := ⟨_, rfl⟩
                    have hsm : ItSm it := by
                      have o1 := hok.me
                      have o2 := hok.ur
                      have o3 := hok.bo
                      have o4 := hok.mo
                      have o5 := hok.cr
                      rw [hit]
                      refine ⟨?_, ?_, ?_, ?_, ?_, ?_, ?_, ?_, ?_, ?_, ?_, ?_, ?_, ?_, ?_, ?_, ?_, ?_, ?_, ?_, ?_, ?_, hok.len, hok.hs⟩ <;> dsimp only <;> first | omega | decide
                    have hid : it.id = WID := by rw [hit, hWID, hcid]; exact hiid.symm
                    have hhs : it.heads = hs := by rw [hit]
                    have hst2 : St w0 w J6 ((bi, .cells #[.int .i64 it.id, .int .i64 it.kind, .int .i64 it.group, .string it.name, .string it.method, .string it.url, vq, .string it.body, .int .i64 it.mode, .int .i64 it.creds, .string it.page, .string it.csp, .int .i64 it.refer, .string it.nurl, .string it.nmethod, .string it.nbody, .int .i64 it.hops, .int .i64 it.tries, .int .i64 it.til, .bool it.tainted, .string it.got, .string it.tag, .int .i64 it.state, .int .i64 it.code, .bool it.acked] 36) :: (b1, OZ) :: L) := by rw [hit, hvq]; exact hst.sub (List.Sublist.cons_cons _ (List.Sublist.cons _ (List.Sublist.cons _ (List.Sublist.cons _ (List.Sublist.refl _)))))
                    clear hst hit
                    have hst := hst2
                    clear hst2
                    refine DRW.done ?_
                    exact AQ.meet (bi, it) ⟨hst, hsm, hid, hhs⟩ ⟨rfl, rfl, rfl, rfl, rfl, trivial⟩
                  refine DRW.opE rfl rfl (runs_alloc ti36 hst) ?_
                  rintro _ w ⟨b56, rfl, hstn⟩
                  clear hst
                  have hst := hstn
                  clear hstn
                  refine ⟨FSt.of hst (Imm.le.refl _) (by first | exact (List.sublist_cons_self _ _).trans (List.sublist_append_right _ _) | exact List.Sublist.refl _ | exact List.sublist_cons_self _ _ | exact List.sublist_append_right _ _ | exact (List.sublist_cons_self _ _).trans (List.sublist_cons_self _ _) | exact (List.sublist_append_right _ _).trans (List.sublist_cons_self _ _) | simp), ?_⟩
                  obtain ⟨bi, hbi⟩ : ∃ b, b = b56 := ⟨_, rfl⟩
                  subst hbi
                  refine DRW.call rfl rfl call38 rfl rfl (uprint_spec hst sc ho po pa qu hz) ?_
                  rintro e w ⟨rfl, hstn⟩
                  clear hst
                  have hst := hstn
                  clear hstn
                  obtain ⟨nu, hnu⟩ : ∃ x, printR sc ho po pa qu = x := ⟨_, rfl⟩
                  rw [hnu] at hpz ⊢
                  refine ⟨_, rfl, FSt.of hst (Imm.le.refl _) (by first | exact (List.sublist_cons_self _ _).trans (List.sublist_append_right _ _) | exact List.Sublist.refl _ | exact List.sublist_cons_self _ _ | exact List.sublist_append_right _ _ | exact (List.sublist_cons_self _ _).trans (List.sublist_cons_self _ _) | exact (List.sublist_append_right _ _).trans (List.sublist_cons_self _ _) | simp), ?_⟩
                  refine DRW.call rfl rfl call8 rfl rfl (within_spec hst (v := q27) (n := 6) (hq27o) (by unfold i64ok; decide)) ?_
                  rintro e w ⟨rfl, hstn⟩
                  clear hst
                  have hst := hstn
                  clear hstn
                  have rchp := within_range q27 6
                  have rchpt := rchp.2 (by decide)
                  obtain ⟨chp, hchp⟩ : ∃ z, within q27 6 = z := ⟨_, rfl⟩
                  rw [hchp] at rchp rchpt ⊢
                  refine ⟨_, rfl, FSt.of hst (Imm.le.refl _) (by first | exact (List.sublist_cons_self _ _).trans (List.sublist_append_right _ _) | exact List.Sublist.refl _ | exact List.sublist_cons_self _ _ | exact List.sublist_append_right _ _ | exact (List.sublist_cons_self _ _).trans (List.sublist_cons_self _ _) | exact (List.sublist_append_right _ _).trans (List.sublist_cons_self _ _) | simp), ?_⟩
                  refine DRW.call rfl rfl call8 rfl rfl (within_spec hst (v := q7) (n := 5) (hq7o) (by unfold i64ok; decide)) ?_
                  rintro e w ⟨rfl, hstn⟩
                  clear hst
                  have hst := hstn
                  clear hstn
                  have rct := within_range q7 5
                  have rctt := rct.2 (by decide)
                  obtain ⟨ct, hct⟩ : ∃ z, within q7 5 = z := ⟨_, rfl⟩
                  rw [hct] at rct rctt ⊢
                  refine ⟨_, rfl, FSt.of hst (Imm.le.refl _) (by first | exact (List.sublist_cons_self _ _).trans (List.sublist_append_right _ _) | exact List.Sublist.refl _ | exact List.sublist_cons_self _ _ | exact List.sublist_append_right _ _ | exact (List.sublist_cons_self _ _).trans (List.sublist_cons_self _ _) | exact (List.sublist_append_right _ _).trans (List.sublist_cons_self _ _) | simp), ?_⟩
                  refine DRW.call rfl rfl call8 rfl rfl (within_spec hst (v := how) (n := 20) (hhow) (by unfold i64ok; decide)) ?_
                  rintro e w ⟨rfl, hstn⟩
                  clear hst
                  have hst := hstn
                  clear hstn
                  have rcu := within_range how 20
                  have rcut := rcu.2 (by decide)
                  obtain ⟨cu, hcu⟩ : ∃ z, within how 20 = z := ⟨_, rfl⟩
                  rw [hcu] at rcu rcut ⊢
                  refine ⟨_, rfl, FSt.of hst (Imm.le.refl _) (by first | exact (List.sublist_cons_self _ _).trans (List.sublist_append_right _ _) | exact List.Sublist.refl _ | exact List.sublist_cons_self _ _ | exact List.sublist_append_right _ _ | exact (List.sublist_cons_self _ _).trans (List.sublist_cons_self _ _) | exact (List.sublist_append_right _ _).trans (List.sublist_cons_self _ _) | simp), ?_⟩
                  refine DRW.q rfl rfl (fun w' hF => runs_buildF (xs := [.int .i64 iid, .int .i64 kd, .int .i64 cg, .agg #[.string me, .string ur, .slice Ah hs.length ch, .string bo, .int .i64 mo, .int .i64 cr], .agg #[.string page, .string csp2, .int .i64 rf], .string nu, .string me, .string bo, .int .i64 chp, .int .i64 ct, .int .i64 cu]) (cells := [.int .i64 iid, .int .i64 kd, .int .i64 cg, .string (ByteArray.mk #[]), .string me, .string ur, .slice Ah hs.length ch, .string bo, .int .i64 mo, .int .i64 cr, .string page, .string csp2, .int .i64 rf, .string nu, .string me, .string bo, .int .i64 chp, .int .i64 ct, .int .i64 cu, .bool false, .string (ByteArray.mk #[]), .string (ByteArray.mk #[]), .int .i64 0, .int .i64 0, .bool false]) bz36 (by kernel_rfl) rfl rfl rfl (by kernel_rfl)) ?_
                  first
                    | refine DRW.opE0 rfl (runs_storeW ti36 rfl rfl hst (k := 0) rfl rfl rfl (NoFz.zero _) rfl) ?_
                    | refine DRW.opE0 rfl (runs_storeP ti36 rfl rfl hst (k := 0) rfl rfl rfl (NoFz.zero _) rfl) ?_
                    | refine DRW.opE0 rfl (runs_storeW ti36 rfl rfl hst (k := 1) rfl rfl rfl (NoFz.zero _) rfl) ?_
                    | refine DRW.opE0 rfl (runs_storeP ti36 rfl rfl hst (k := 1) rfl rfl rfl (NoFz.zero _) rfl) ?_
                    | refine DRW.opE0 rfl (runs_storeW ti36 rfl rfl hst (k := 2) rfl rfl rfl (NoFz.zero _) rfl) ?_
                    | refine DRW.opE0 rfl (runs_storeP ti36 rfl rfl hst (k := 2) rfl rfl rfl (NoFz.zero _) rfl) ?_
                  rintro w hstn
                  clear hst
                  have hst := hstn
                  clear hstn
                  try simp only [List.set_cons_zero, List.set_cons_succ] at hst
                  refine ⟨FSt.of hst (Imm.le.refl _) (by first | exact (List.sublist_cons_self _ _).trans (List.sublist_append_right _ _) | exact List.Sublist.refl _ | exact List.sublist_cons_self _ _ | exact List.sublist_append_right _ _ | exact (List.sublist_cons_self _ _).trans (List.sublist_cons_self _ _) | exact (List.sublist_append_right _ _).trans (List.sublist_cons_self _ _) | simp), ?_⟩
                  obtain ⟨it, hit⟩ : ∃ it : It, it = ⟨iid, kd, cg, (ByteArray.mk #[]), me, ur, hs, bo, mo, cr, page, csp2, rf, nu, me, bo, chp, ct, cu, false, (ByteArray.mk #[]), (ByteArray.mk #[]), 0, 0, false⟩ := ⟨_, rfl⟩
                  have hsm : ItSm it := by
                    have o1 := hok.me
                    have o2 := hok.ur
                    have o3 := hok.bo
                    have o4 := hok.mo
                    have o5 := hok.cr
                    rw [hit]
                    refine ⟨?_, ?_, ?_, ?_, ?_, ?_, ?_, ?_, ?_, ?_, ?_, ?_, ?_, ?_, ?_, ?_, ?_, ?_, ?_, ?_, ?_, ?_, hok.len, hok.hs⟩ <;> dsimp only <;> first | omega | decide
                  have hid : it.id = WID := by rw [hit, hWID, hcid]; exact hiid.symm
                  have hhs : it.heads = hs := by rw [hit]
                  have hst2 : St w0 w J6 ((bi, .cells #[.int .i64 it.id, .int .i64 it.kind, .int .i64 it.group, .string it.name, .string it.method, .string it.url, vq, .string it.body, .int .i64 it.mode, .int .i64 it.creds, .string it.page, .string it.csp, .int .i64 it.refer, .string it.nurl, .string it.nmethod, .string it.nbody, .int .i64 it.hops, .int .i64 it.tries, .int .i64 it.til, .bool it.tainted, .string it.got, .string it.tag, .int .i64 it.state, .int .i64 it.code, .bool it.acked] 36) :: (b1, OZ) :: L) := by rw [hit, hvq]; exact hst.sub (List.Sublist.cons_cons _ (List.Sublist.cons _ (List.Sublist.cons _ (List.Sublist.cons _ (List.Sublist.refl _)))))
                  clear hst hit
                  have hst := hst2
                  clear hst2
                  refine DRW.done ?_
                  exact AQ.meet (bi, it) ⟨hst, hsm, hid, hhs⟩ ⟨rfl, rfl, rfl, rfl, rfl, trivial⟩
                refine DRW.opE rfl rfl (runs_alloc ti36 hst) ?_
                rintro _ w ⟨b62, rfl, hstn⟩
                clear hst
                have hst := hstn
                clear hstn
                refine ⟨FSt.of hst (Imm.le.refl _) (by first | exact (List.sublist_cons_self _ _).trans (List.sublist_append_right _ _) | exact List.Sublist.refl _ | exact List.sublist_cons_self _ _ | exact List.sublist_append_right _ _ | exact (List.sublist_cons_self _ _).trans (List.sublist_cons_self _ _) | exact (List.sublist_append_right _ _).trans (List.sublist_cons_self _ _) | simp), ?_⟩
                obtain ⟨bi, hbi⟩ : ∃ b, b = b62 := ⟨_, rfl⟩
                subst hbi
                refine DRW.call rfl rfl call8 rfl rfl (within_spec hst (v := how) (n := 3) (hhow) (by unfold i64ok; decide)) ?_
                rintro e w ⟨rfl, hstn⟩
                clear hst
                have hst := hstn
                clear hstn
                have rcg := within_range how 3
                have rcgt := rcg.2 (by decide)
                obtain ⟨cg, hcg⟩ : ∃ z, within how 3 = z := ⟨_, rfl⟩
                rw [hcg] at rcg rcgt ⊢
                refine ⟨_, rfl, FSt.of hst (Imm.le.refl _) (by first | exact (List.sublist_cons_self _ _).trans (List.sublist_append_right _ _) | exact List.Sublist.refl _ | exact List.sublist_cons_self _ _ | exact List.sublist_append_right _ _ | exact (List.sublist_cons_self _ _).trans (List.sublist_cons_self _ _) | exact (List.sublist_append_right _ _).trans (List.sublist_cons_self _ _) | simp), ?_⟩
                refine DRW.call rfl rfl call38 rfl rfl (uprint_spec hst sc ho po pa qu hz) ?_
                rintro e w ⟨rfl, hstn⟩
                clear hst
                have hst := hstn
                clear hstn
                obtain ⟨nu, hnu⟩ : ∃ x, printR sc ho po pa qu = x := ⟨_, rfl⟩
                rw [hnu] at hpz ⊢
                refine ⟨_, rfl, FSt.of hst (Imm.le.refl _) (by first | exact (List.sublist_cons_self _ _).trans (List.sublist_append_right _ _) | exact List.Sublist.refl _ | exact List.sublist_cons_self _ _ | exact List.sublist_append_right _ _ | exact (List.sublist_cons_self _ _).trans (List.sublist_cons_self _ _) | exact (List.sublist_append_right _ _).trans (List.sublist_cons_self _ _) | simp), ?_⟩
                refine DRW.call rfl rfl call8 rfl rfl (within_spec hst (v := q27) (n := 6) (hq27o) (by unfold i64ok; decide)) ?_
                rintro e w ⟨rfl, hstn⟩
                clear hst
                have hst := hstn
                clear hstn
                have rchp := within_range q27 6
                have rchpt := rchp.2 (by decide)
                obtain ⟨chp, hchp⟩ : ∃ z, within q27 6 = z := ⟨_, rfl⟩
                rw [hchp] at rchp rchpt ⊢
                refine ⟨_, rfl, FSt.of hst (Imm.le.refl _) (by first | exact (List.sublist_cons_self _ _).trans (List.sublist_append_right _ _) | exact List.Sublist.refl _ | exact List.sublist_cons_self _ _ | exact List.sublist_append_right _ _ | exact (List.sublist_cons_self _ _).trans (List.sublist_cons_self _ _) | exact (List.sublist_append_right _ _).trans (List.sublist_cons_self _ _) | simp), ?_⟩
                refine DRW.call rfl rfl call8 rfl rfl (within_spec hst (v := q7) (n := 5) (hq7o) (by unfold i64ok; decide)) ?_
                rintro e w ⟨rfl, hstn⟩
                clear hst
                have hst := hstn
                clear hstn
                have rct := within_range q7 5
                have rctt := rct.2 (by decide)
                obtain ⟨ct, hct⟩ : ∃ z, within q7 5 = z := ⟨_, rfl⟩
                rw [hct] at rct rctt ⊢
                refine ⟨_, rfl, FSt.of hst (Imm.le.refl _) (by first | exact (List.sublist_cons_self _ _).trans (List.sublist_append_right _ _) | exact List.Sublist.refl _ | exact List.sublist_cons_self _ _ | exact List.sublist_append_right _ _ | exact (List.sublist_cons_self _ _).trans (List.sublist_cons_self _ _) | exact (List.sublist_append_right _ _).trans (List.sublist_cons_self _ _) | simp), ?_⟩
                refine DRW.call rfl rfl call8 rfl rfl (within_spec hst (v := how) (n := 20) (hhow) (by unfold i64ok; decide)) ?_
                rintro e w ⟨rfl, hstn⟩
                clear hst
                have hst := hstn
                clear hstn
                have rcu := within_range how 20
                have rcut := rcu.2 (by decide)
                obtain ⟨cu, hcu⟩ : ∃ z, within how 20 = z := ⟨_, rfl⟩
                rw [hcu] at rcu rcut ⊢
                refine ⟨_, rfl, FSt.of hst (Imm.le.refl _) (by first | exact (List.sublist_cons_self _ _).trans (List.sublist_append_right _ _) | exact List.Sublist.refl _ | exact List.sublist_cons_self _ _ | exact List.sublist_append_right _ _ | exact (List.sublist_cons_self _ _).trans (List.sublist_cons_self _ _) | exact (List.sublist_append_right _ _).trans (List.sublist_cons_self _ _) | simp), ?_⟩
                refine DRW.q rfl rfl (fun w' hF => runs_buildF (xs := [.int .i64 iid, .int .i64 kd, .int .i64 cg, .agg #[.string me, .string ur, .slice Ah hs.length ch, .string bo, .int .i64 mo, .int .i64 cr], .agg #[.string page, .string csp2, .int .i64 rf], .string nu, .string me, .string bo, .int .i64 chp, .int .i64 ct, .int .i64 cu]) (cells := [.int .i64 iid, .int .i64 kd, .int .i64 cg, .string (ByteArray.mk #[]), .string me, .string ur, .slice Ah hs.length ch, .string bo, .int .i64 mo, .int .i64 cr, .string page, .string csp2, .int .i64 rf, .string nu, .string me, .string bo, .int .i64 chp, .int .i64 ct, .int .i64 cu, .bool false, .string (ByteArray.mk #[]), .string (ByteArray.mk #[]), .int .i64 0, .int .i64 0, .bool false]) bz36 (by kernel_rfl) rfl rfl rfl (by kernel_rfl)) ?_
                first
                  | refine DRW.opE0 rfl (runs_storeW ti36 rfl rfl hst (k := 0) rfl rfl rfl (NoFz.zero _) rfl) ?_
                  | refine DRW.opE0 rfl (runs_storeP ti36 rfl rfl hst (k := 0) rfl rfl rfl (NoFz.zero _) rfl) ?_
                  | refine DRW.opE0 rfl (runs_storeW ti36 rfl rfl hst (k := 1) rfl rfl rfl (NoFz.zero _) rfl) ?_
                  | refine DRW.opE0 rfl (runs_storeP ti36 rfl rfl hst (k := 1) rfl rfl rfl (NoFz.zero _) rfl) ?_
                  | refine DRW.opE0 rfl (runs_storeW ti36 rfl rfl hst (k := 2) rfl rfl rfl (NoFz.zero _) rfl) ?_
                  | refine DRW.opE0 rfl (runs_storeP ti36 rfl rfl hst (k := 2) rfl rfl rfl (NoFz.zero _) rfl) ?_
                rintro w hstn
                clear hst
                have hst := hstn
                clear hstn
                try simp only [List.set_cons_zero, List.set_cons_succ] at hst
                refine ⟨FSt.of hst (Imm.le.refl _) (by first | exact (List.sublist_cons_self _ _).trans (List.sublist_append_right _ _) | exact List.Sublist.refl _ | exact List.sublist_cons_self _ _ | exact List.sublist_append_right _ _ | exact (List.sublist_cons_self _ _).trans (List.sublist_cons_self _ _) | exact (List.sublist_append_right _ _).trans (List.sublist_cons_self _ _) | simp), ?_⟩
                obtain ⟨it, hit⟩ : ∃ it : It, it = ⟨iid, kd, cg, (ByteArray.mk #[]), me, ur, hs, bo, mo, cr, page, csp2, rf, nu, me, bo, chp, ct, cu, false, (ByteArray.mk #[]), (ByteArray.mk #[]), 0, 0, false⟩ := ⟨_, rfl⟩
                have hsm : ItSm it := by
                  have o1 := hok.me
                  have o2 := hok.ur
                  have o3 := hok.bo
                  have o4 := hok.mo
                  have o5 := hok.cr
                  rw [hit]
                  refine ⟨?_, ?_, ?_, ?_, ?_, ?_, ?_, ?_, ?_, ?_, ?_, ?_, ?_, ?_, ?_, ?_, ?_, ?_, ?_, ?_, ?_, ?_, hok.len, hok.hs⟩ <;> dsimp only <;> first | omega | decide
                have hid : it.id = WID := by rw [hit, hWID, hcid]; exact hiid.symm
                have hhs : it.heads = hs := by rw [hit]
                have hst2 : St w0 w J6 ((bi, .cells #[.int .i64 it.id, .int .i64 it.kind, .int .i64 it.group, .string it.name, .string it.method, .string it.url, vq, .string it.body, .int .i64 it.mode, .int .i64 it.creds, .string it.page, .string it.csp, .int .i64 it.refer, .string it.nurl, .string it.nmethod, .string it.nbody, .int .i64 it.hops, .int .i64 it.tries, .int .i64 it.til, .bool it.tainted, .string it.got, .string it.tag, .int .i64 it.state, .int .i64 it.code, .bool it.acked] 36) :: (b1, OZ) :: L) := by rw [hit, hvq]; exact hst.sub (List.Sublist.cons_cons _ (List.Sublist.cons _ (List.Sublist.cons _ (List.Sublist.cons _ (List.Sublist.refl _)))))
                clear hst hit
                have hst := hst2
                clear hst2
                refine DRW.done ?_
                exact AQ.meet (bi, it) ⟨hst, hsm, hid, hhs⟩ ⟨rfl, rfl, rfl, rfl, rfl, trivial⟩
              refine DRW.opE rfl rfl (runs_alloc ti36 hst) ?_
              rintro _ w ⟨b69, rfl, hstn⟩
              clear hst
              have hst := hstn
              clear hstn
              refine ⟨FSt.of hst (Imm.le.refl _) (by first | exact (List.sublist_cons_self _ _).trans (List.sublist_append_right _ _) | exact List.Sublist.refl _ | exact List.sublist_cons_self _ _ | exact List.sublist_append_right _ _ | exact (List.sublist_cons_self _ _).trans (List.sublist_cons_self _ _) | exact (List.sublist_append_right _ _).trans (List.sublist_cons_self _ _) | simp), ?_⟩
              obtain ⟨bi, hbi⟩ : ∃ b, b = b69 := ⟨_, rfl⟩
              subst hbi
              refine DRW.call rfl rfl call8 rfl rfl (within_spec hst (v := how) (n := 9) (hhow) (by unfold i64ok; decide)) ?_
              rintro e w ⟨rfl, hstn⟩
              clear hst
              have hst := hstn
              clear hstn
              have rcid := within_range how 9
              have rcidt := rcid.2 (by decide)
              obtain ⟨cid, hcid⟩ : ∃ z, within how 9 = z := ⟨_, rfl⟩
              rw [hcid] at rcid rcidt ⊢
              refine ⟨_, rfl, FSt.of hst (Imm.le.refl _) (by first | exact (List.sublist_cons_self _ _).trans (List.sublist_append_right _ _) | exact List.Sublist.refl _ | exact List.sublist_cons_self _ _ | exact List.sublist_append_right _ _ | exact (List.sublist_cons_self _ _).trans (List.sublist_cons_self _ _) | exact (List.sublist_append_right _ _).trans (List.sublist_cons_self _ _) | simp), ?_⟩
              refine DRW.q rfl rfl (fun w' hF => runs_add rfl rfl (by omega)) ?_
              obtain ⟨iid, hiid⟩ : ∃ z, 1 + cid = z := ⟨_, rfl⟩
              rw [hiid]
              refine DRW.call rfl rfl call8 rfl rfl (within_spec hst (v := how) (n := 3) (hhow) (by unfold i64ok; decide)) ?_
              rintro e w ⟨rfl, hstn⟩
              clear hst
              have hst := hstn
              clear hstn
              have rcg := within_range how 3
              have rcgt := rcg.2 (by decide)
              obtain ⟨cg, hcg⟩ : ∃ z, within how 3 = z := ⟨_, rfl⟩
              rw [hcg] at rcg rcgt ⊢
              refine ⟨_, rfl, FSt.of hst (Imm.le.refl _) (by first | exact (List.sublist_cons_self _ _).trans (List.sublist_append_right _ _) | exact List.Sublist.refl _ | exact List.sublist_cons_self _ _ | exact List.sublist_append_right _ _ | exact (List.sublist_cons_self _ _).trans (List.sublist_cons_self _ _) | exact (List.sublist_append_right _ _).trans (List.sublist_cons_self _ _) | simp), ?_⟩
              refine DRW.call rfl rfl call38 rfl rfl (uprint_spec hst sc ho po pa qu hz) ?_
              rintro e w ⟨rfl, hstn⟩
              clear hst
              have hst := hstn
              clear hstn
              obtain ⟨nu, hnu⟩ : ∃ x, printR sc ho po pa qu = x := ⟨_, rfl⟩
              rw [hnu] at hpz ⊢
              refine ⟨_, rfl, FSt.of hst (Imm.le.refl _) (by first | exact (List.sublist_cons_self _ _).trans (List.sublist_append_right _ _) | exact List.Sublist.refl _ | exact List.sublist_cons_self _ _ | exact List.sublist_append_right _ _ | exact (List.sublist_cons_self _ _).trans (List.sublist_cons_self _ _) | exact (List.sublist_append_right _ _).trans (List.sublist_cons_self _ _) | simp), ?_⟩
              refine DRW.call rfl rfl call8 rfl rfl (within_spec hst (v := q27) (n := 6) (hq27o) (by unfold i64ok; decide)) ?_
              rintro e w ⟨rfl, hstn⟩
              clear hst
              have hst := hstn
              clear hstn
              have rchp := within_range q27 6
              have rchpt := rchp.2 (by decide)
              obtain ⟨chp, hchp⟩ : ∃ z, within q27 6 = z := ⟨_, rfl⟩
              rw [hchp] at rchp rchpt ⊢
              refine ⟨_, rfl, FSt.of hst (Imm.le.refl _) (by first | exact (List.sublist_cons_self _ _).trans (List.sublist_append_right _ _) | exact List.Sublist.refl _ | exact List.sublist_cons_self _ _ | exact List.sublist_append_right _ _ | exact (List.sublist_cons_self _ _).trans (List.sublist_cons_self _ _) | exact (List.sublist_append_right _ _).trans (List.sublist_cons_self _ _) | simp), ?_⟩
              refine DRW.call rfl rfl call8 rfl rfl (within_spec hst (v := q7) (n := 5) (hq7o) (by unfold i64ok; decide)) ?_
              rintro e w ⟨rfl, hstn⟩
              clear hst
              have hst := hstn
              clear hstn
              have rct := within_range q7 5
              have rctt := rct.2 (by decide)
              obtain ⟨ct, hct⟩ : ∃ z, within q7 5 = z := ⟨_, rfl⟩
              rw [hct] at rct rctt ⊢
              refine ⟨_, rfl, FSt.of hst (Imm.le.refl _) (by first | exact (List.sublist_cons_self _ _).trans (List.sublist_append_right _ _) | exact List.Sublist.refl _ | exact List.sublist_cons_self _ _ | exact List.sublist_append_right _ _ | exact (List.sublist_cons_self _ _).trans (List.sublist_cons_self _ _) | exact (List.sublist_append_right _ _).trans (List.sublist_cons_self _ _) | simp), ?_⟩
              refine DRW.call rfl rfl call8 rfl rfl (within_spec hst (v := how) (n := 20) (hhow) (by unfold i64ok; decide)) ?_
              rintro e w ⟨rfl, hstn⟩
              clear hst
              have hst := hstn
              clear hstn
              have rcu := within_range how 20
              have rcut := rcu.2 (by decide)
              obtain ⟨cu, hcu⟩ : ∃ z, within how 20 = z := ⟨_, rfl⟩
              rw [hcu] at rcu rcut ⊢
              refine ⟨_, rfl, FSt.of hst (Imm.le.refl _) (by first | exact (List.sublist_cons_self _ _).trans (List.sublist_append_right _ _) | exact List.Sublist.refl _ | exact List.sublist_cons_self _ _ | exact List.sublist_append_right _ _ | exact (List.sublist_cons_self _ _).trans (List.sublist_cons_self _ _) | exact (List.sublist_append_right _ _).trans (List.sublist_cons_self _ _) | simp), ?_⟩
              refine DRW.q rfl rfl (fun w' hF => runs_buildF (xs := [.int .i64 iid, .int .i64 kd, .int .i64 cg, .agg #[.string me, .string ur, .slice Ah hs.length ch, .string bo, .int .i64 mo, .int .i64 cr], .agg #[.string page, .string csp2, .int .i64 rf], .string nu, .string me, .string bo, .int .i64 chp, .int .i64 ct, .int .i64 cu]) (cells := [.int .i64 iid, .int .i64 kd, .int .i64 cg, .string (ByteArray.mk #[]), .string me, .string ur, .slice Ah hs.length ch, .string bo, .int .i64 mo, .int .i64 cr, .string page, .string csp2, .int .i64 rf, .string nu, .string me, .string bo, .int .i64 chp, .int .i64 ct, .int .i64 cu, .bool false, .string (ByteArray.mk #[]), .string (ByteArray.mk #[]), .int .i64 0, .int .i64 0, .bool false]) bz36 (by kernel_rfl) rfl rfl rfl (by kernel_rfl)) ?_
              first
                | refine DRW.opE0 rfl (runs_storeW ti36 rfl rfl hst (k := 0) rfl rfl rfl (NoFz.zero _) rfl) ?_
                | refine DRW.opE0 rfl (runs_storeP ti36 rfl rfl hst (k := 0) rfl rfl rfl (NoFz.zero _) rfl) ?_
                | refine DRW.opE0 rfl (runs_storeW ti36 rfl rfl hst (k := 1) rfl rfl rfl (NoFz.zero _) rfl) ?_
                | refine DRW.opE0 rfl (runs_storeP ti36 rfl rfl hst (k := 1) rfl rfl rfl (NoFz.zero _) rfl) ?_
                | refine DRW.opE0 rfl (runs_storeW ti36 rfl rfl hst (k := 2) rfl rfl rfl (NoFz.zero _) rfl) ?_
                | refine DRW.opE0 rfl (runs_storeP ti36 rfl rfl hst (k := 2) rfl rfl rfl (NoFz.zero _) rfl) ?_
              rintro w hstn
              clear hst
              have hst := hstn
              clear hstn
              try simp only [List.set_cons_zero, List.set_cons_succ] at hst
              refine ⟨FSt.of hst (Imm.le.refl _) (by first | exact (List.sublist_cons_self _ _).trans (List.sublist_append_right _ _) | exact List.Sublist.refl _ | exact List.sublist_cons_self _ _ | exact List.sublist_append_right _ _ | exact (List.sublist_cons_self _ _).trans (List.sublist_cons_self _ _) | exact (List.sublist_append_right _ _).trans (List.sublist_cons_self _ _) | simp), ?_⟩
              obtain ⟨it, hit⟩ : ∃ it : It, it = ⟨iid, kd, cg, (ByteArray.mk #[]), me, ur, hs, bo, mo, cr, page, csp2, rf, nu, me, bo, chp, ct, cu, false, (ByteArray.mk #[]), (ByteArray.mk #[]), 0, 0, false⟩ := ⟨_, rfl⟩
              have hsm : ItSm it := by
                have o1 := hok.me
                have o2 := hok.ur
                have o3 := hok.bo
                have o4 := hok.mo
                have o5 := hok.cr
                rw [hit]
                refine ⟨?_, ?_, ?_, ?_, ?_, ?_, ?_, ?_, ?_, ?_, ?_, ?_, ?_, ?_, ?_, ?_, ?_, ?_, ?_, ?_, ?_, ?_, hok.len, hok.hs⟩ <;> dsimp only <;> first | omega | decide
              have hid : it.id = WID := by rw [hit, hWID, hcid]; exact hiid.symm
              have hhs : it.heads = hs := by rw [hit]
              have hst2 : St w0 w J6 ((bi, .cells #[.int .i64 it.id, .int .i64 it.kind, .int .i64 it.group, .string it.name, .string it.method, .string it.url, vq, .string it.body, .int .i64 it.mode, .int .i64 it.creds, .string it.page, .string it.csp, .int .i64 it.refer, .string it.nurl, .string it.nmethod, .string it.nbody, .int .i64 it.hops, .int .i64 it.tries, .int .i64 it.til, .bool it.tainted, .string it.got, .string it.tag, .int .i64 it.state, .int .i64 it.code, .bool it.acked] 36) :: (b1, OZ) :: L) := by rw [hit, hvq]; exact hst.sub (List.Sublist.cons_cons _ (List.Sublist.cons _ (List.Sublist.cons _ (List.Sublist.cons _ (List.Sublist.refl _)))))
              clear hst hit
              have hst := hst2
              clear hst2
              refine DRW.done ?_
              exact AQ.meet (bi, it) ⟨hst, hsm, hid, hhs⟩ ⟨rfl, rfl, rfl, rfl, rfl, trivial⟩
            · clear hst
              rintro ⟨bi, it⟩ w ⟨hstn, hsm, hid, hhs⟩
              dsimp only at hstn hsm hid hhs ⊢
              have hst := hstn
              clear hstn
              have hH := hHq
              refine AQ.next ?_
              refine CW.seq ?_
              refine CW.cut It (fun it w => St w0 w J6 ((bi, .cells #[.int .i64 it.id, .int .i64 it.kind, .int .i64 it.group, .string it.name, .string it.method, .string it.url, vq, .string it.body, .int .i64 it.mode, .int .i64 it.creds, .string it.page, .string it.csp, .int .i64 it.refer, .string it.nurl, .string it.nmethod, .string it.nbody, .int .i64 it.hops, .int .i64 it.tries, .int .i64 it.til, .bool it.tainted, .string it.got, .string it.tag, .int .i64 it.state, .int .i64 it.code, .bool it.acked] 36) :: (b1, OZ) :: L) ∧ ItSm it ∧ it.id = WID ∧ it.heads = hs) (fun _ => [(2, .int .i64 how), (4, .int .i64 got), (10, .pointer (some ⟨b1, 0, none⟩)), (11, .func (.func 8) #[] #[]), (20, .pointer (some ⟨bi, 0, none⟩))]) ?_ ?_
              ·
                refine CW.region ?_
                first
                  | refine RW.op1 rfl (runs_fieldAddr0 rfl Try.underlying36 rfl ti3 (by decide)) ?_
                  | refine RW.op1 rfl (runs_fieldAddr rfl Try.underlying36 rfl ti3 (by decide)) ?_
                first
                  | refine RW.op1 rfl (runs_load1 sc3 rfl (hst.cell_own (k := 0) rfl rfl)) ?_
                  | refine RW.op1 rfl (runs_load1 sc3 rfl (hst.cell_own (k := 1) rfl rfl)) ?_
                  | refine RW.op1 rfl (runs_load1 sc3 rfl (hst.cell_own (k := 2) rfl rfl)) ?_
                refine RW.op1 rfl (runs_gtr rfl rfl) ?_
                refine RW.op1 rfl (runs_move rfl) ?_
                refine RW.split (t := 175) rfl (fun hb175 => ?_) (fun hb175 => ?_)
                · have hb175p := hb175
                  try simp only [decide_eq_true_eq, decide_eq_false_iff_not] at hb175p
                  refine RW.on_guard rfl rfl rfl rfl hb175 ?_
                  refine RW.op1 rfl (runs_move rfl) ?_
                  refine RW.on_guard rfl rfl rfl rfl hb175 ?_
                  refine RW.op1 rfl (runs_move rfl) ?_
                  refine RW.on_guard rfl rfl rfl rfl hb175 ?_
                  refine RW.op1 rfl (runs_quo rfl rfl (by decide)) ?_
                  obtain ⟨q5, hq5⟩ : ∃ q, IntKind.i64.wrap (how.tdiv 5) = q := ⟨_, rfl⟩
                  have hq5o : i64ok q5 := by rw [← hq5]; exact wrap_ok _
                  rw [hq5]
                  refine RW.on_guard rfl rfl rfl rfl hb175 ?_
                  refine RW.call rfl call8 rfl rfl (within_spec hst (v := q5) (n := 4) (hq5o) (by unfold i64ok; decide)) ?_
                  rintro e w ⟨rfl, hstn⟩
                  clear hst
                  have hst := hstn
                  clear hstn
                  refine ⟨_, rfl, ?_⟩
                  refine RW.on_guard rfl rfl rfl rfl hb175 ?_
                  refine RW.op1 rfl (runs_eqI rfl rfl) ?_
                  refine RW.op1 rfl (runs_pick_true rfl hb175 rfl) ?_
                  first
                    | refine RW.op1 rfl (runs_fieldAddr0 rfl Try.underlying36 rfl ti4 (by decide)) ?_
                    | refine RW.op1 rfl (runs_fieldAddr rfl Try.underlying36 rfl ti4 (by decide)) ?_
                  first
                    | refine RW.opE0 (runs_store1P ti4 rfl rfl hst (k := 0) rfl rfl (NoFz.zero _) rfl) ?_
                    | refine RW.opE0 (runs_store1P ti4 rfl rfl hst (k := 1) rfl rfl (NoFz.zero _) rfl) ?_
                    | refine RW.opE0 (runs_store1P ti4 rfl rfl hst (k := 2) rfl rfl (NoFz.zero _) rfl) ?_
                  rintro w hstn
                  clear hst
                  have hst := hstn
                  clear hstn
                  try simp only [List.set_cons_zero, List.set_cons_succ] at hst
                  refine RW.done ?_
                  first
                    | exact AQ.meet {it with tainted := false} ⟨hst, ⟨hsm.id, hsm.kind, hsm.group, hsm.mode, hsm.creds, hsm.refer, hsm.hops, hsm.tries, hsm.til, hsm.state, hsm.code, hsm.name, hsm.method, hsm.url, hsm.body, hsm.page, hsm.csp, hsm.nurl, hsm.nmethod, hsm.nbody, hsm.got, hsm.tag, hsm.len, hsm.hs⟩, hid, hhs⟩ ⟨rfl, rfl, rfl, rfl, rfl, trivial⟩
                    | exact AQ.meet {it with tainted := decide (within q5 4 = 3)} ⟨hst, ⟨hsm.id, hsm.kind, hsm.group, hsm.mode, hsm.creds, hsm.refer, hsm.hops, hsm.tries, hsm.til, hsm.state, hsm.code, hsm.name, hsm.method, hsm.url, hsm.body, hsm.page, hsm.csp, hsm.nurl, hsm.nmethod, hsm.nbody, hsm.got, hsm.tag, hsm.len, hsm.hs⟩, hid, hhs⟩ ⟨rfl, rfl, rfl, rfl, rfl, trivial⟩
                · have hb175p := hb175
                  try simp only [decide_eq_true_eq, decide_eq_false_iff_not] at hb175p
                  refine RW.off_guard rfl rfl rfl rfl hb175 ?_
                  refine RW.off_guard rfl rfl rfl rfl hb175 ?_
                  refine RW.off_guard rfl rfl rfl rfl hb175 ?_
                  refine RW.off_guard rfl rfl rfl rfl hb175 ?_
                  refine RW.off_guard rfl rfl rfl rfl hb175 ?_
                  refine RW.op1 rfl (runs_pick_false rfl hb175 rfl) ?_
                  first
                    | refine RW.op1 rfl (runs_fieldAddr0 rfl Try.underlying36 rfl ti4 (by decide)) ?_
                    | refine RW.op1 rfl (runs_fieldAddr rfl Try.underlying36 rfl ti4 (by decide)) ?_
                  first
                    | refine RW.opE0 (runs_store1P ti4 rfl rfl hst (k := 0) rfl rfl (NoFz.zero _) rfl) ?_
                    | refine RW.opE0 (runs_store1P ti4 rfl rfl hst (k := 1) rfl rfl (NoFz.zero _) rfl) ?_
                    | refine RW.opE0 (runs_store1P ti4 rfl rfl hst (k := 2) rfl rfl (NoFz.zero _) rfl) ?_
                  rintro w hstn
                  clear hst
                  have hst := hstn
                  clear hstn
                  try simp only [List.set_cons_zero, List.set_cons_succ] at hst
                  refine RW.done ?_
                  first
                    | exact AQ.meet {it with tainted := false} ⟨hst, ⟨hsm.id, hsm.kind, hsm.group, hsm.mode, hsm.creds, hsm.refer, hsm.hops, hsm.tries, hsm.til, hsm.state, hsm.code, hsm.name, hsm.method, hsm.url, hsm.body, hsm.page, hsm.csp, hsm.nurl, hsm.nmethod, hsm.nbody, hsm.got, hsm.tag, hsm.len, hsm.hs⟩, hid, hhs⟩ ⟨rfl, rfl, rfl, rfl, rfl, trivial⟩
                    | exact AQ.meet {it with tainted := decide (within q5 4 = 3)} ⟨hst, ⟨hsm.id, hsm.kind, hsm.group, hsm.mode, hsm.creds, hsm.refer, hsm.hops, hsm.tries, hsm.til, hsm.state, hsm.code, hsm.name, hsm.method, hsm.url, hsm.body, hsm.page, hsm.csp, hsm.nurl, hsm.nmethod, hsm.nbody, hsm.got, hsm.tag, hsm.len, hsm.hs⟩, hid, hhs⟩ ⟨rfl, rfl, rfl, rfl, rfl, trivial⟩
              · clear hst hsm hid hhs
                rintro it w ⟨hstn, hsm, hid, hhs⟩
                have hst := hstn
                clear hstn
                refine AQ.next ?_
                refine CW.seq ?_
                refine CW.seq ?_
                refine CW.region ?_
                first
                  | refine RW.op1 rfl (runs_fieldAddr0 rfl Try.underlying36 rfl ti3 (by decide)) ?_
                  | refine RW.op1 rfl (runs_fieldAddr rfl Try.underlying36 rfl ti3 (by decide)) ?_
                first
                  | refine RW.op1 rfl (runs_load1 sc3 rfl (hst.cell_own (k := 0) rfl rfl)) ?_
                  | refine RW.op1 rfl (runs_load1 sc3 rfl (hst.cell_own (k := 1) rfl rfl)) ?_
                  | refine RW.op1 rfl (runs_load1 sc3 rfl (hst.cell_own (k := 2) rfl rfl)) ?_
                refine RW.op1 rfl (runs_eqI rfl rfl) ?_
                refine RW.done ?_
                refine AQ.next ?_
                refine CW.cut (Imm × It) (fun y w => I.le y.1 ∧ St w0 w y.1 ((bi, .cells #[.int .i64 y.2.id, .int .i64 y.2.kind, .int .i64 y.2.group, .string y.2.name, .string y.2.method, .string y.2.url, vq, .string y.2.body, .int .i64 y.2.mode, .int .i64 y.2.creds, .string y.2.page, .string y.2.csp, .int .i64 y.2.refer, .string y.2.nurl, .string y.2.nmethod, .string y.2.nbody, .int .i64 y.2.hops, .int .i64 y.2.tries, .int .i64 y.2.til, .bool y.2.tainted, .string y.2.got, .string y.2.tag, .int .i64 y.2.state, .int .i64 y.2.code, .bool y.2.acked] 36) :: (b1, OZ) :: L) ∧ RdH y.1 vq hs ∧ ItSm y.2 ∧ y.2.id = WID ∧ y.2.heads = hs) (fun _ => [(10, .pointer (some ⟨b1, 0, none⟩)), (20, .pointer (some ⟨bi, 0, none⟩))]) ?_ ?_
                · refine CW.cond rfl (fun hc185 => ?_) (fun hc185 => ?_)
                  · have hcb185 := hc185
                    try simp only [decide_eq_true_eq, decide_eq_false_iff_not] at hc185
                    refine CW.seq ?_
                    refine CW.region ?_
                    refine RW.op1 rfl (runs_move rfl) ?_
                    refine RW.opE rfl (runs_lit1R Try.underlying91 ti9 (by decide) rfl rfl rfl (by simp [Value.oneCell']) hst) ?_
                    rintro u80 w ⟨I80, hI80, hstn, h80⟩
                    clear hst
                    have hst := hstn
                    clear hstn
                    replace hH := hH.mono hI80
                    replace hle := hle.trans hI80
                    have hN : RdS _ u80 [⟨#[102]⟩, ⟨#[103]⟩, ⟨#[78, 97, 109, 101, 45, 49, 50]⟩] := h80
                    refine RW.call rfl call39 rfl rfl (at_spec18 hst how hhow hN (by decide) (by decide)) ?_
                    rintro e w ⟨nm, hnm, rfl, hstn⟩
                    clear hst
                    have hst := hstn
                    clear hstn
                    have hnmz := (show ∀ z ∈ ([⟨#[102]⟩, ⟨#[103]⟩, ⟨#[78, 97, 109, 101, 45, 49, 50]⟩] : List ByteArray), z.size ≤ 60 by decide) nm hnm
                    refine ⟨_, rfl, ?_⟩
                    first
                      | refine RW.op1 rfl (runs_fieldAddr0 rfl Try.underlying36 rfl ti9 (by decide)) ?_
                      | refine RW.op1 rfl (runs_fieldAddr rfl Try.underlying36 rfl ti9 (by decide)) ?_
                    first
                      | refine RW.opE0 (runs_store1P ti9 rfl rfl hst (k := 0) rfl rfl (NoFz.zero _) rfl) ?_
                      | refine RW.opE0 (runs_store1P ti9 rfl rfl hst (k := 1) rfl rfl (NoFz.zero _) rfl) ?_
                      | refine RW.opE0 (runs_store1P ti9 rfl rfl hst (k := 2) rfl rfl (NoFz.zero _) rfl) ?_
                    rintro w hstn
                    clear hst
                    have hst := hstn
                    clear hstn
                    try simp only [List.set_cons_zero, List.set_cons_succ] at hst
                    obtain ⟨it1, hit1⟩ : ∃ i : It, i = {it with name := nm} := ⟨_, rfl⟩
                    have hsm1 : ItSm it1 := by rw [hit1]; exact ⟨hsm.id, hsm.kind, hsm.group, hsm.mode, hsm.creds, hsm.refer, hsm.hops, hsm.tries, hsm.til, hsm.state, hsm.code, hnmz, hsm.method, hsm.url, hsm.body, hsm.page, hsm.csp, hsm.nurl, hsm.nmethod, hsm.nbody, hsm.got, hsm.tag, hsm.len, hsm.hs⟩
                    have hid1 : it1.id = WID := by rw [hit1]; exact hid
                    have hhs1 : it1.heads = hs := by rw [hit1]; exact hhs
                    have hst2 := St.retype (L' := (bi, .cells #[.int .i64 it1.id, .int .i64 it1.kind, .int .i64 it1.group, .string it1.name, .string it1.method, .string it1.url, vq, .string it1.body, .int .i64 it1.mode, .int .i64 it1.creds, .string it1.page, .string it1.csp, .int .i64 it1.refer, .string it1.nurl, .string it1.nmethod, .string it1.nbody, .int .i64 it1.hops, .int .i64 it1.tries, .int .i64 it1.til, .bool it1.tainted, .string it1.got, .string it1.tag, .int .i64 it1.state, .int .i64 it1.code, .bool it1.acked] 36) :: (b1, OZ) :: L) hst (by rw [hit1]; rfl)
                    clear hst hit1
                    have hst := hst2
                    clear hst2
                    refine RW.done ?_
                    refine AQ.next ?_
                    refine CW.seq ?_
                    refine CW.region ?_
                    first
                      | refine RW.op1 rfl (runs_fieldAddr0 rfl Try.underlying36 rfl ti9 (by decide)) ?_
                      | refine RW.op1 rfl (runs_fieldAddr rfl Try.underlying36 rfl ti9 (by decide)) ?_
                    first
                      | refine RW.op1 rfl (runs_load1 sc9 rfl (hst.cell_own (k := 0) rfl rfl)) ?_
                      | refine RW.op1 rfl (runs_load1 sc9 rfl (hst.cell_own (k := 1) rfl rfl)) ?_
                      | refine RW.op1 rfl (runs_load1 sc9 rfl (hst.cell_own (k := 2) rfl rfl)) ?_
                    refine RW.op1 rfl (runs_eqS rfl rfl) ?_
                    refine RW.op1 rfl (runs_move rfl) ?_
                    refine RW.split (t := 193) rfl (fun hb193 => ?_) (fun hb193 => ?_)
                    · have hb193p := hb193
                      try simp only [decide_eq_true_eq, decide_eq_false_iff_not] at hb193p
                      refine RW.on_guard rfl rfl rfl rfl hb193 ?_
                      refine RW.op1 rfl (runs_move rfl) ?_
                      refine RW.on_guard rfl rfl rfl rfl hb193 ?_
                      refine RW.op1 rfl (runs_move rfl) ?_
                      refine RW.on_guard rfl rfl rfl rfl hb193 ?_
                      refine RW.call rfl call8 rfl rfl (within_spec hst (v := got) (n := 3) (hgot) (by unfold i64ok; decide)) ?_
                      rintro e w ⟨rfl, hstn⟩
                      clear hst
                      have hst := hstn
                      clear hstn
                      refine ⟨_, rfl, ?_⟩
                      refine RW.on_guard rfl rfl rfl rfl hb193 ?_
                      refine RW.op1 rfl (runs_gtr rfl rfl) ?_
                      refine RW.op1 rfl (runs_pick_true rfl hb193 rfl) ?_
                      refine RW.done ?_
                      refine AQ.next ?_
                      refine CW.cond rfl (fun hc198 => ?_) (fun hc198 => ?_)
                      · have hcb198 := hc198
                        try simp only [decide_eq_true_eq, decide_eq_false_iff_not] at hc198
                        refine CW.draw (FSt w0 _ ((b1, OZ) :: L)) (.q 0 (.q 3 (.fork (.l 1 (.fork (.l 2 (.l 4 (.q 5 (.q 6 (.l 7 (.q 8 (.l 9 (.q 10 (.l 11 .nil))))))))) (.l 4 (.q 5 (.l 2 (.q 6 (.l 7 (.q 8 (.l 9 (.q 10 (.l 11 .nil))))))))))) (.l 4 (.q 5 (.l 1 (.l 2 (.q 6 (.l 7 (.q 8 (.l 9 (.q 10 (.l 11 .nil))))))))))))) follows (by kernel_rfl) ⟨_, Imm.le.refl _, hst.draw.drop1⟩ ?_
                        replace hst := hst.draw
                        refine DRW.q rfl rfl (fun w' hF => runs_move rfl) ?_
                        first
                          | refine DRW.q rfl rfl (fun w' hF => runs_fieldAddr0 rfl Try.underlying36 rfl ti3 (by decide)) ?_
                          | refine DRW.q rfl rfl (fun w' hF => runs_fieldAddr rfl Try.underlying36 rfl ti3 (by decide)) ?_
                        refine DRW.fork ?_ ?_
                        · refine DRW.call rfl rfl call40 rfl rfl (bytes_spec hst got 3 hgot (by decide)) ?_
                          rintro e w ⟨Jb, vb, hJb, rfl, hstn, hvb⟩
                          clear hst
                          have hst := hstn
                          clear hstn
                          replace hH := hH.mono hJb
                          replace h80 := h80.mono hJb
                          replace hN := hN.mono hJb
                          replace hle := hle.trans hJb
                          refine ⟨_, rfl, FSt.of hst hJb (by first | exact (List.sublist_cons_self _ _).trans (List.sublist_append_right _ _) | exact List.Sublist.refl _ | exact List.sublist_cons_self _ _ | exact List.sublist_append_right _ _ | exact (List.sublist_cons_self _ _).trans (List.sublist_cons_self _ _) | exact (List.sublist_append_right _ _).trans (List.sublist_cons_self _ _) | simp), ?_⟩
                          refine DRW.fork ?_ ?_
                          · refine DRW.op1 rfl rfl (RdB.string Try.underlying43 Try.underlying5 Try.underlying9 rfl hvb hst) (FSt.of hst (by first | exact hJb | exact Imm.le.refl _) (List.sublist_cons_self _ _)) ?_
                            first
                              | refine DRW.op1 rfl rfl (runs_load1 sc3 rfl (hst.cell_own (k := 0) rfl rfl)) (FSt.of hst hJb (by first | exact (List.sublist_cons_self _ _).trans (List.sublist_append_right _ _) | exact List.Sublist.refl _ | exact List.sublist_cons_self _ _ | exact List.sublist_append_right _ _ | exact (List.sublist_cons_self _ _).trans (List.sublist_cons_self _ _) | exact (List.sublist_append_right _ _).trans (List.sublist_cons_self _ _) | simp)) ?_
                              | refine DRW.op1 rfl rfl (runs_load1 sc3 rfl (hst.cell_own (k := 1) rfl rfl)) (FSt.of hst hJb (by first | exact (List.sublist_cons_self _ _).trans (List.sublist_append_right _ _) | exact List.Sublist.refl _ | exact List.sublist_cons_self _ _ | exact List.sublist_append_right _ _ | exact (List.sublist_cons_self _ _).trans (List.sublist_cons_self _ _) | exact (List.sublist_append_right _ _).trans (List.sublist_cons_self _ _) | simp)) ?_
                              | refine DRW.op1 rfl rfl (runs_load1 sc3 rfl (hst.cell_own (k := 2) rfl rfl)) (FSt.of hst hJb (by first | exact (List.sublist_cons_self _ _).trans (List.sublist_append_right _ _) | exact List.Sublist.refl _ | exact List.sublist_cons_self _ _ | exact List.sublist_append_right _ _ | exact (List.sublist_cons_self _ _).trans (List.sublist_cons_self _ _) | exact (List.sublist_append_right _ _).trans (List.sublist_cons_self _ _) | simp)) ?_
                            refine DRW.q rfl rfl (fun w' hF => runs_max rfl rfl) ?_
                            first
                              | refine DRW.q rfl rfl (fun w' hF => runs_fieldAddr0 rfl Try.underlying36 rfl ti9 (by decide)) ?_
                              | refine DRW.q rfl rfl (fun w' hF => runs_fieldAddr rfl Try.underlying36 rfl ti9 (by decide)) ?_
                            first
                              | refine DRW.opE0 rfl (runs_store1P ti9 rfl rfl hst (k := 0) rfl rfl (NoFz.zero _) rfl) ?_
                              | refine DRW.opE0 rfl (runs_store1P ti9 rfl rfl hst (k := 1) rfl rfl (NoFz.zero _) rfl) ?_
                              | refine DRW.opE0 rfl (runs_store1P ti9 rfl rfl hst (k := 2) rfl rfl (NoFz.zero _) rfl) ?_
                            rintro w hstn
                            clear hst
                            have hst := hstn
                            clear hstn
                            try simp only [List.set_cons_zero, List.set_cons_succ] at hst
                            refine ⟨FSt.of hst hJb (by first | exact (List.sublist_cons_self _ _).trans (List.sublist_append_right _ _) | exact List.Sublist.refl _ | exact List.sublist_cons_self _ _ | exact List.sublist_append_right _ _ | exact (List.sublist_cons_self _ _).trans (List.sublist_cons_self _ _) | exact (List.sublist_append_right _ _).trans (List.sublist_cons_self _ _) | simp), ?_⟩
                            first
                              | refine DRW.q rfl rfl (fun w' hF => runs_fieldAddr0 rfl Try.underlying36 rfl ti9 (by decide)) ?_
                              | refine DRW.q rfl rfl (fun w' hF => runs_fieldAddr rfl Try.underlying36 rfl ti9 (by decide)) ?_
                            first
                              | refine DRW.opE0 rfl (runs_store1P ti9 rfl rfl hst (k := 0) rfl rfl (NoFz.zero _) rfl) ?_
                              | refine DRW.opE0 rfl (runs_store1P ti9 rfl rfl hst (k := 1) rfl rfl (NoFz.zero _) rfl) ?_
                              | refine DRW.opE0 rfl (runs_store1P ti9 rfl rfl hst (k := 2) rfl rfl (NoFz.zero _) rfl) ?_
                            rintro w hstn
                            clear hst
                            have hst := hstn
                            clear hstn
                            try simp only [List.set_cons_zero, List.set_cons_succ] at hst
                            refine ⟨FSt.of hst hJb (by first | exact (List.sublist_cons_self _ _).trans (List.sublist_append_right _ _) | exact List.Sublist.refl _ | exact List.sublist_cons_self _ _ | exact List.sublist_append_right _ _ | exact (List.sublist_cons_self _ _).trans (List.sublist_cons_self _ _) | exact (List.sublist_append_right _ _).trans (List.sublist_cons_self _ _) | simp), ?_⟩
                            first
                              | refine DRW.q rfl rfl (fun w' hF => runs_fieldAddr0 rfl Try.underlying36 rfl ti3 (by decide)) ?_
                              | refine DRW.q rfl rfl (fun w' hF => runs_fieldAddr rfl Try.underlying36 rfl ti3 (by decide)) ?_
                            first
                              | refine DRW.opE0 rfl (runs_store1P ti3 rfl rfl hst (k := 0) rfl rfl (NoFz.zero _) rfl) ?_
                              | refine DRW.opE0 rfl (runs_store1P ti3 rfl rfl hst (k := 1) rfl rfl (NoFz.zero _) rfl) ?_
                              | refine DRW.opE0 rfl (runs_store1P ti3 rfl rfl hst (k := 2) rfl rfl (NoFz.zero _) rfl) ?_
                            rintro w hstn
                            clear hst
                            have hst := hstn
                            clear hstn
                            try simp only [List.set_cons_zero, List.set_cons_succ] at hst
                            refine ⟨FSt.of hst hJb (by first | exact (List.sublist_cons_self _ _).trans (List.sublist_append_right _ _) | exact List.Sublist.refl _ | exact List.sublist_cons_self _ _ | exact List.sublist_append_right _ _ | exact (List.sublist_cons_self _ _).trans (List.sublist_cons_self _ _) | exact (List.sublist_append_right _ _).trans (List.sublist_cons_self _ _) | simp), ?_⟩
                            obtain ⟨it2, hit2⟩ : ∃ i : It, i = {it1 with got := strOf (bytesOf got 3), tag := ByteArray.mk #[34, 97, 34], tries := if 1 > it1.tries then 1 else it1.tries} := ⟨_, rfl⟩
                            have hsm2 : ItSm it2 := by
                              have o1 := hsm1.tries
                              have o2 := bytes_sz got 3 (by decide)
                              rw [hit2]
                              exact ⟨hsm1.id, hsm1.kind, hsm1.group, hsm1.mode, hsm1.creds, hsm1.refer, hsm1.hops, by dsimp only; split <;> omega, hsm1.til, hsm1.state, hsm1.code, hsm1.name, hsm1.method, hsm1.url, hsm1.body, hsm1.page, hsm1.csp, hsm1.nurl, hsm1.nmethod, hsm1.nbody, o2, by dsimp only; decide, hsm1.len, hsm1.hs⟩
                            have hid2 : it2.id = WID := by rw [hit2]; exact hid1
                            have hhs2 : it2.heads = hs := by rw [hit2]; exact hhs1
                            have hst2 := St.retype (L' := (bi, .cells #[.int .i64 it2.id, .int .i64 it2.kind, .int .i64 it2.group, .string it2.name, .string it2.method, .string it2.url, vq, .string it2.body, .int .i64 it2.mode, .int .i64 it2.creds, .string it2.page, .string it2.csp, .int .i64 it2.refer, .string it2.nurl, .string it2.nmethod, .string it2.nbody, .int .i64 it2.hops, .int .i64 it2.tries, .int .i64 it2.til, .bool it2.tainted, .string it2.got, .string it2.tag, .int .i64 it2.state, .int .i64 it2.code, .bool it2.acked] 36) :: (b1, OZ) :: L) hst (by rw [hit2]; rfl)
                            clear hst hit2
                            have hst := hst2
                            clear hst2
                            refine DRW.done ?_
                            first
                              | exact AQ.meet (_, it1) ⟨hle, hst, hH, hsm1, hid1, hhs1⟩ ⟨rfl, rfl, trivial⟩
                              | exact AQ.meet (_, it2) ⟨hle, hst, hH, hsm2, hid2, hhs2⟩ ⟨rfl, rfl, trivial⟩
                              | exact AQ.meet (_, it) ⟨hle, hst, hH, hsm, hid, hhs⟩ ⟨rfl, rfl, trivial⟩
                          first
                            | refine DRW.op1 rfl rfl (runs_load1 sc3 rfl (hst.cell_own (k := 0) rfl rfl)) (FSt.of hst hJb (by first | exact (List.sublist_cons_self _ _).trans (List.sublist_append_right _ _) | exact List.Sublist.refl _ | exact List.sublist_cons_self _ _ | exact List.sublist_append_right _ _ | exact (List.sublist_cons_self _ _).trans (List.sublist_cons_self _ _) | exact (List.sublist_append_right _ _).trans (List.sublist_cons_self _ _) | simp)) ?_
                            | refine DRW.op1 rfl rfl (runs_load1 sc3 rfl (hst.cell_own (k := 1) rfl rfl)) (FSt.of hst hJb (by first | exact (List.sublist_cons_self _ _).trans (List.sublist_append_right _ _) | exact List.Sublist.refl _ | exact List.sublist_cons_self _ _ | exact List.sublist_append_right _ _ | exact (List.sublist_cons_self _ _).trans (List.sublist_cons_self _ _) | exact (List.sublist_append_right _ _).trans (List.sublist_cons_self _ _) | simp)) ?_
                            | refine DRW.op1 rfl rfl (runs_load1 sc3 rfl (hst.cell_own (k := 2) rfl rfl)) (FSt.of hst hJb (by first | exact (List.sublist_cons_self _ _).trans (List.sublist_append_right _ _) | exact List.Sublist.refl _ | exact List.sublist_cons_self _ _ | exact List.sublist_append_right _ _ | exact (List.sublist_cons_self _ _).trans (List.sublist_cons_self _ _) | exact (List.sublist_append_right _ _).trans (List.sublist_cons_self _ _) | simp)) ?_
                          refine DRW.q rfl rfl (fun w' hF => runs_max rfl rfl) ?_
                          refine DRW.op1 rfl rfl (RdB.string Try.underlying43 Try.underlying5 Try.underlying9 rfl hvb hst) (FSt.of hst (by first | exact hJb | exact Imm.le.refl _) (List.sublist_cons_self _ _)) ?_
                          first
                            | refine DRW.q rfl rfl (fun w' hF => runs_fieldAddr0 rfl Try.underlying36 rfl ti9 (by decide)) ?_
                            | refine DRW.q rfl rfl (fun w' hF => runs_fieldAddr rfl Try.underlying36 rfl ti9 (by decide)) ?_
                          first
                            | refine DRW.opE0 rfl (runs_store1P ti9 rfl rfl hst (k := 0) rfl rfl (NoFz.zero _) rfl) ?_
                            | refine DRW.opE0 rfl (runs_store1P ti9 rfl rfl hst (k := 1) rfl rfl (NoFz.zero _) rfl) ?_
                            | refine DRW.opE0 rfl (runs_store1P ti9 rfl rfl hst (k := 2) rfl rfl (NoFz.zero _) rfl) ?_
                          rintro w hstn
                          clear hst
                          have hst := hstn
                          clear hstn
                          try simp only [List.set_cons_zero, List.set_cons_succ] at hst
                          refine ⟨FSt.of hst hJb (by first | exact (List.sublist_cons_self _ _).trans (List.sublist_append_right _ _) | exact List.Sublist.refl _ | exact List.sublist_cons_self _ _ | exact List.sublist_append_right _ _ | exact (List.sublist_cons_self _ _).trans (List.sublist_cons_self _ _) | exact (List.sublist_append_right _ _).trans (List.sublist_cons_self _ _) | simp), ?_⟩
                          first
                            | refine DRW.q rfl rfl (fun w' hF => runs_fieldAddr0 rfl Try.underlying36 rfl ti9 (by decide)) ?_
                            | refine DRW.q rfl rfl (fun w' hF => runs_fieldAddr rfl Try.underlying36 rfl ti9 (by decide)) ?_
                          first
                            | refine DRW.opE0 rfl (runs_store1P ti9 rfl rfl hst (k := 0) rfl rfl (NoFz.zero _) rfl) ?_
                            | refine DRW.opE0 rfl (runs_store1P ti9 rfl rfl hst (k := 1) rfl rfl (NoFz.zero _) rfl) ?_
                            | refine DRW.opE0 rfl (runs_store1P ti9 rfl rfl hst (k := 2) rfl rfl (NoFz.zero _) rfl) ?_
                          rintro w hstn
                          clear hst
                          have hst := hstn
                          clear hstn
                          try simp only [List.set_cons_zero, List.set_cons_succ] at hst
                          refine ⟨FSt.of hst hJb (by first | exact (List.sublist_cons_self _ _).trans (List.sublist_append_right _ _) | exact List.Sublist.refl _ | exact List.sublist_cons_self _ _ | exact List.sublist_append_right _ _ | exact (List.sublist_cons_self _ _).trans (List.sublist_cons_self _ _) | exact (List.sublist_append_right _ _).trans (List.sublist_cons_self _ _) | simp), ?_⟩
                          first
                            | refine DRW.q rfl rfl (fun w' hF => runs_fieldAddr0 rfl Try.underlying36 rfl ti3 (by decide)) ?_
                            | refine DRW.q rfl rfl (fun w' hF => runs_fieldAddr rfl Try.underlying36 rfl ti3 (by decide)) ?_
                          first
                            | refine DRW.opE0 rfl (runs_store1P ti3 rfl rfl hst (k := 0) rfl rfl (NoFz.zero _) rfl) ?_
                            | refine DRW.opE0 rfl (runs_store1P ti3 rfl rfl hst (k := 1) rfl rfl (NoFz.zero _) rfl) ?_
                            | refine DRW.opE0 rfl (runs_store1P ti3 rfl rfl hst (k := 2) rfl rfl (NoFz.zero _) rfl) ?_
                          rintro w hstn
                          clear hst
                          have hst := hstn
                          clear hstn
                          try simp only [List.set_cons_zero, List.set_cons_succ] at hst
                          refine ⟨FSt.of hst hJb (by first | exact (List.sublist_cons_self _ _).trans (List.sublist_append_right _ _) | exact List.Sublist.refl _ | exact List.sublist_cons_self _ _ | exact List.sublist_append_right _ _ | exact (List.sublist_cons_self _ _).trans (List.sublist_cons_self _ _) | exact (List.sublist_append_right _ _).trans (List.sublist_cons_self _ _) | simp), ?_⟩
                          obtain ⟨it2, hit2⟩ : ∃ i : It, i = {it1 with got := strOf (bytesOf got 3), tag := ByteArray.mk #[34, 97, 34], tries := if 1 > it1.tries then 1 else it1.tries} := ⟨_, rfl⟩
                          have hsm2 : ItSm it2 := by
                            have o1 := hsm1.tries
                            have o2 := bytes_sz got 3 (by decide)
                            rw [hit2]
                            exact ⟨hsm1.id, hsm1.kind, hsm1.group, hsm1.mode, hsm1.creds, hsm1.refer, hsm1.hops, by dsimp only; split <;> omega, hsm1.til, hsm1.state, hsm1.code, hsm1.name, hsm1.method, hsm1.url, hsm1.body, hsm1.page, hsm1.csp, hsm1.nurl, hsm1.nmethod, hsm1.nbody, o2, by dsimp only; decide, hsm1.len, hsm1.hs⟩
                          have hid2 : it2.id = WID := by rw [hit2]; exact hid1
                          have hhs2 : it2.heads = hs := by rw [hit2]; exact hhs1
                          have hst2 := St.retype (L' := (bi, .cells #[.int .i64 it2.id, .int .i64 it2.kind, .int .i64 it2.group, .string it2.name, .string it2.method, .string it2.url, vq, .string it2.body, .int .i64 it2.mode, .int .i64 it2.creds, .string it2.page, .string it2.csp, .int .i64 it2.refer, .string it2.nurl, .string it2.nmethod, .string it2.nbody, .int .i64 it2.hops, .int .i64 it2.tries, .int .i64 it2.til, .bool it2.tainted, .string it2.got, .string it2.tag, .int .i64 it2.state, .int .i64 it2.code, .bool it2.acked] 36) :: (b1, OZ) :: L) hst (by rw [hit2]; rfl)
                          clear hst hit2
                          have hst := hst2
                          clear hst2
                          refine DRW.done ?_
                          first
                            | exact AQ.meet (_, it1) ⟨hle, hst, hH, hsm1, hid1, hhs1⟩ ⟨rfl, rfl, trivial⟩
                            | exact AQ.meet (_, it2) ⟨hle, hst, hH, hsm2, hid2, hhs2⟩ ⟨rfl, rfl, trivial⟩
                            | exact AQ.meet (_, it) ⟨hle, hst, hH, hsm, hid, hhs⟩ ⟨rfl, rfl, trivial⟩
                        first
                          | refine DRW.op1 rfl rfl (runs_load1 sc3 rfl (hst.cell_own (k := 0) rfl rfl)) (FSt.of hst (Imm.le.refl _) (by first | exact (List.sublist_cons_self _ _).trans (List.sublist_append_right _ _) | exact List.Sublist.refl _ | exact List.sublist_cons_self _ _ | exact List.sublist_append_right _ _ | exact (List.sublist_cons_self _ _).trans (List.sublist_cons_self _ _) | exact (List.sublist_append_right _ _).trans (List.sublist_cons_self _ _) | simp)) ?_
                          | refine DRW.op1 rfl rfl (runs_load1 sc3 rfl (hst.cell_own (k := 1) rfl rfl)) (FSt.of hst (Imm.le.refl _) (by first | exact (List.sublist_cons_self _ _).trans (List.sublist_append_right _ _) | exact List.Sublist.refl _ | exact List.sublist_cons_self _ _ | exact List.sublist_append_right _ _ | exact (List.sublist_cons_self _ _).trans (List.sublist_cons_self _ _) | exact (List.sublist_append_right _ _).trans (List.sublist_cons_self _ _) | simp)) ?_
                          | refine DRW.op1 rfl rfl (runs_load1 sc3 rfl (hst.cell_own (k := 2) rfl rfl)) (FSt.of hst (Imm.le.refl _) (by first | exact (List.sublist_cons_self _ _).trans (List.sublist_append_right _ _) | exact List.Sublist.refl _ | exact List.sublist_cons_self _ _ | exact List.sublist_append_right _ _ | exact (List.sublist_cons_self _ _).trans (List.sublist_cons_self _ _) | exact (List.sublist_append_right _ _).trans (List.sublist_cons_self _ _) | simp)) ?_
                        refine DRW.q rfl rfl (fun w' hF => runs_max rfl rfl) ?_
                        refine DRW.call rfl rfl call40 rfl rfl (bytes_spec hst got 3 hgot (by decide)) ?_
                        rintro e w ⟨Jb, vb, hJb, rfl, hstn, hvb⟩
                        clear hst
                        have hst := hstn
                        clear hstn
                        replace hH := hH.mono hJb
                        replace h80 := h80.mono hJb
                        replace hN := hN.mono hJb
                        replace hle := hle.trans hJb
                        refine ⟨_, rfl, FSt.of hst hJb (by first | exact (List.sublist_cons_self _ _).trans (List.sublist_append_right _ _) | exact List.Sublist.refl _ | exact List.sublist_cons_self _ _ | exact List.sublist_append_right _ _ | exact (List.sublist_cons_self _ _).trans (List.sublist_cons_self _ _) | exact (List.sublist_append_right _ _).trans (List.sublist_cons_self _ _) | simp), ?_⟩
                        refine DRW.op1 rfl rfl (RdB.string Try.underlying43 Try.underlying5 Try.underlying9 rfl hvb hst) (FSt.of hst (by first | exact hJb | exact Imm.le.refl _) (List.sublist_cons_self _ _)) ?_
                        first
                          | refine DRW.q rfl rfl (fun w' hF => runs_fieldAddr0 rfl Try.underlying36 rfl ti9 (by decide)) ?_
                          | refine DRW.q rfl rfl (fun w' hF => runs_fieldAddr rfl Try.underlying36 rfl ti9 (by decide)) ?_
                        first
                          | refine DRW.opE0 rfl (runs_store1P ti9 rfl rfl hst (k := 0) rfl rfl (NoFz.zero _) rfl) ?_
                          | refine DRW.opE0 rfl (runs_store1P ti9 rfl rfl hst (k := 1) rfl rfl (NoFz.zero _) rfl) ?_
                          | refine DRW.opE0 rfl (runs_store1P ti9 rfl rfl hst (k := 2) rfl rfl (NoFz.zero _) rfl) ?_
                        rintro w hstn
                        clear hst
                        have hst := hstn
                        clear hstn
                        try simp only [List.set_cons_zero, List.set_cons_succ] at hst
                        refine ⟨FSt.of hst hJb (by first | exact (List.sublist_cons_self _ _).trans (List.sublist_append_right _ _) | exact List.Sublist.refl _ | exact List.sublist_cons_self _ _ | exact List.sublist_append_right _ _ | exact (List.sublist_cons_self _ _).trans (List.sublist_cons_self _ _) | exact (List.sublist_append_right _ _).trans (List.sublist_cons_self _ _) | simp), ?_⟩
                        first
                          | refine DRW.q rfl rfl (fun w' hF => runs_fieldAddr0 rfl Try.underlying36 rfl ti9 (by decide)) ?_
                          | refine DRW.q rfl rfl (fun w' hF => runs_fieldAddr rfl Try.underlying36 rfl ti9 (by decide)) ?_
                        first
                          | refine DRW.opE0 rfl (runs_store1P ti9 rfl rfl hst (k := 0) rfl rfl (NoFz.zero _) rfl) ?_
                          | refine DRW.opE0 rfl (runs_store1P ti9 rfl rfl hst (k := 1) rfl rfl (NoFz.zero _) rfl) ?_
                          | refine DRW.opE0 rfl (runs_store1P ti9 rfl rfl hst (k := 2) rfl rfl (NoFz.zero _) rfl) ?_
                        rintro w hstn
                        clear hst
                        have hst := hstn
                        clear hstn
                        try simp only [List.set_cons_zero, List.set_cons_succ] at hst
                        refine ⟨FSt.of hst hJb (by first | exact (List.sublist_cons_self _ _).trans (List.sublist_append_right _ _) | exact List.Sublist.refl _ | exact List.sublist_cons_self _ _ | exact List.sublist_append_right _ _ | exact (List.sublist_cons_self _ _).trans (List.sublist_cons_self _ _) | exact (List.sublist_append_right _ _).trans (List.sublist_cons_self _ _) | simp), ?_⟩
                        first
                          | refine DRW.q rfl rfl (fun w' hF => runs_fieldAddr0 rfl Try.underlying36 rfl ti3 (by decide)) ?_
                          | refine DRW.q rfl rfl (fun w' hF => runs_fieldAddr rfl Try.underlying36 rfl ti3 (by decide)) ?_
                        first
                          | refine DRW.opE0 rfl (runs_store1P ti3 rfl rfl hst (k := 0) rfl rfl (NoFz.zero _) rfl) ?_
                          | refine DRW.opE0 rfl (runs_store1P ti3 rfl rfl hst (k := 1) rfl rfl (NoFz.zero _) rfl) ?_
                          | refine DRW.opE0 rfl (runs_store1P ti3 rfl rfl hst (k := 2) rfl rfl (NoFz.zero _) rfl) ?_
                        rintro w hstn
                        clear hst
                        have hst := hstn
                        clear hstn
                        try simp only [List.set_cons_zero, List.set_cons_succ] at hst
                        refine ⟨FSt.of hst hJb (by first | exact (List.sublist_cons_self _ _).trans (List.sublist_append_right _ _) | exact List.Sublist.refl _ | exact List.sublist_cons_self _ _ | exact List.sublist_append_right _ _ | exact (List.sublist_cons_self _ _).trans (List.sublist_cons_self _ _) | exact (List.sublist_append_right _ _).trans (List.sublist_cons_self _ _) | simp), ?_⟩
                        obtain ⟨it2, hit2⟩ : ∃ i : It, i = {it1 with got := strOf (bytesOf got 3), tag := ByteArray.mk #[34, 97, 34], tries := if 1 > it1.tries then 1 else it1.tries} := ⟨_, rfl⟩
                        have hsm2 : ItSm it2 := by
                          have o1 := hsm1.tries
                          have o2 := bytes_sz got 3 (by decide)
                          rw [hit2]
                          exact ⟨hsm1.id, hsm1.kind, hsm1.group, hsm1.mode, hsm1.creds, hsm1.refer, hsm1.hops, by dsimp only; split <;> omega, hsm1.til, hsm1.state, hsm1.code, hsm1.name, hsm1.method, hsm1.url, hsm1.body, hsm1.page, hsm1.csp, hsm1.nurl, hsm1.nmethod, hsm1.nbody, o2, by dsimp only; decide, hsm1.len, hsm1.hs⟩
                        have hid2 : it2.id = WID := by rw [hit2]; exact hid1
                        have hhs2 : it2.heads = hs := by rw [hit2]; exact hhs1
                        have hst2 := St.retype (L' := (bi, .cells #[.int .i64 it2.id, .int .i64 it2.kind, .int .i64 it2.group, .string it2.name, .string it2.method, .string it2.url, vq, .string it2.body, .int .i64 it2.mode, .int .i64 it2.creds, .string it2.page, .string it2.csp, .int .i64 it2.refer, .string it2.nurl, .string it2.nmethod, .string it2.nbody, .int .i64 it2.hops, .int .i64 it2.tries, .int .i64 it2.til, .bool it2.tainted, .string it2.got, .string it2.tag, .int .i64 it2.state, .int .i64 it2.code, .bool it2.acked] 36) :: (b1, OZ) :: L) hst (by rw [hit2]; rfl)
                        clear hst hit2
                        have hst := hst2
                        clear hst2
                        refine DRW.done ?_
                        first
                          | exact AQ.meet (_, it1) ⟨hle, hst, hH, hsm1, hid1, hhs1⟩ ⟨rfl, rfl, trivial⟩
                          | exact AQ.meet (_, it2) ⟨hle, hst, hH, hsm2, hid2, hhs2⟩ ⟨rfl, rfl, trivial⟩
                          | exact AQ.meet (_, it) ⟨hle, hst, hH, hsm, hid, hhs⟩ ⟨rfl, rfl, trivial⟩
                      · have hcb198 := hc198
                        try simp only [decide_eq_true_eq, decide_eq_false_iff_not] at hc198
                        refine CW.skip ?_
                        first
                          | exact AQ.meet (_, it1) ⟨hle, hst, hH, hsm1, hid1, hhs1⟩ ⟨rfl, rfl, trivial⟩
                          | exact AQ.meet (_, it2) ⟨hle, hst, hH, hsm2, hid2, hhs2⟩ ⟨rfl, rfl, trivial⟩
                          | exact AQ.meet (_, it) ⟨hle, hst, hH, hsm, hid, hhs⟩ ⟨rfl, rfl, trivial⟩
                    · have hb193p := hb193
                      try simp only [decide_eq_true_eq, decide_eq_false_iff_not] at hb193p
                      refine RW.off_guard rfl rfl rfl rfl hb193 ?_
                      refine RW.off_guard rfl rfl rfl rfl hb193 ?_
                      refine RW.off_guard rfl rfl rfl rfl hb193 ?_
                      refine RW.off_guard rfl rfl rfl rfl hb193 ?_
                      refine RW.op1 rfl (runs_pick_false rfl hb193 rfl) ?_
                      refine RW.done ?_
                      refine AQ.next ?_
                      refine CW.cond_false rfl ?_
                      refine CW.skip ?_
                      first
                        | exact AQ.meet (_, it1) ⟨hle, hst, hH, hsm1, hid1, hhs1⟩ ⟨rfl, rfl, trivial⟩
                        | exact AQ.meet (_, it2) ⟨hle, hst, hH, hsm2, hid2, hhs2⟩ ⟨rfl, rfl, trivial⟩
                        | exact AQ.meet (_, it) ⟨hle, hst, hH, hsm, hid, hhs⟩ ⟨rfl, rfl, trivial⟩
                  · have hcb185 := hc185
                    try simp only [decide_eq_true_eq, decide_eq_false_iff_not] at hc185
                    refine CW.skip ?_
                    first
                      | exact AQ.meet (_, it1) ⟨hle, hst, hH, hsm1, hid1, hhs1⟩ ⟨rfl, rfl, trivial⟩
                      | exact AQ.meet (_, it2) ⟨hle, hst, hH, hsm2, hid2, hhs2⟩ ⟨rfl, rfl, trivial⟩
                      | exact AQ.meet (_, it) ⟨hle, hst, hH, hsm, hid, hhs⟩ ⟨rfl, rfl, trivial⟩
                · clear hle hst hH hsm hid hhs
                  rintro ⟨J9, it⟩ w ⟨hle, hstn, hH, hsm, hid, hhs⟩
                  dsimp only at hle hstn hH hsm hid hhs ⊢
                  have hst := hstn
                  clear hstn
                  refine AQ.next ?_
                  refine CW.seq ?_
                  refine CW.region ?_
                  subst hOZ
                  refine RW.op1 rfl (runs_loadN (vs := [.int .i64 it.id, .int .i64 it.kind, .int .i64 it.group, .string it.name, .string it.method, .string it.url, vq, .string it.body, .int .i64 it.mode, .int .i64 it.creds, .string it.page, .string it.csp, .int .i64 it.refer, .string it.nurl, .string it.nmethod, .string it.nbody, .int .i64 it.hops, .int .i64 it.tries, .int .i64 it.til, .bool it.tainted, .string it.got, .string it.tag, .int .i64 it.state, .int .i64 it.code, .bool it.acked]) ag36 ti36 rfl hst (k := 0) rfl rfl rfl) ?_
                  refine RW.opE0 (runs_storeW ti36 rfl rfl hst (k := 1) rfl rfl rfl (NoFz.zero _) (it_one it hH.one)) ?_
                  rintro w hstn
                  clear hst
                  have hst := hstn
                  clear hstn
                  try simp only [List.set_cons_zero, List.set_cons_succ] at hst
                  refine RW.done ?_
                  refine AQ.next ?_
                  refine CW.ret ?_
                  refine AQ.retS rfl rfl (hst.loadN (vs := [_, _, _, _, _, _, _, _, _, _, _, _, _, _, _, _, _, _, _, _, _, _, _, _, _]) (k := 1) ag36 ti36 rfl rfl rfl) ?_
                  exact ⟨_, it, vq, hle, rfl, hst.drop1.drop1, by rw [hhs]; exact hH, hsm, by rw [hid, hWID]⟩
end Go.Proofs.YtlmmpcdjkpibcaaX
