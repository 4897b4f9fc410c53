/- Parts of a proof, joined: walks through the program's functions and their laws, in the order in which they need each other. -/
import Derived.Test.YtadgbifmiooikaaPLb
import Derived.Test.YtadgbifmiooikaaSH
import Derived.Test.YtadgbifmiooikaaSI
namespace Go.Proofs.YtadgbifmiooikaaX
set_option linter.unusedVariables false
set_option linter.unusedSimpArgs false
open Go Go.RowKit
variable {w0 w : World} {I : Imm} {L : Own} {P : Program}
def SrcH (I : Imm) (L : Own) (v : Value) (hs : List HRow) : Prop := ∃ B c, v = .slice B hs.length c ∧ ∀ (w0 w : World) (I' : Imm) (L' : Own), I.le I' → (∀ p ∈ L, p ∈ L') → St w0 w I' L' → ∀ j u, (hs.flatMap hrow)[j]? = some u → ∃ a, B = some a ∧ w.cell? (a.add j) = some u
theorem RdH.srcH {v : Value} {hs : List HRow} (h : RdH I v hs) (L : Own) : SrcH I L v hs := by
  obtain ⟨_, _, A, c, rfl, _, h4⟩ := h; refine ⟨A, c, rfl, fun w0 w I' L' hI _ hst j u hj => ?_⟩; obtain ⟨a, h5, h6⟩ := h4 j u hj; exact ⟨a, h5, hst.cell_imm (hI.cell h6)⟩
theorem Grow.srcH {v : Value} {hs : List HRow} {Lv : Own} (hg : Grow 31 2 v hs.length (hs.flatMap hrow) Lv) (hsub : ∀ p ∈ Lv, p ∈ L) : SrcH I L v hs := by
  have hc := fun (w0 w : World) (I' : Imm) (L' : Own) (hL : ∀ p ∈ L, p ∈ L') (hst : St w0 w I' L') (j : Nat) (u : Value) (hj : (hs.flatMap hrow)[j]? = some u) => Grow.cell hg hst (fun p hp => hL p (hsub p hp)) hj
  obtain ⟨h1, _, ⟨rfl, h0, rfl⟩ | ⟨g, cap, cur, rfl, rfl, _⟩⟩ := hg
  · refine ⟨none, 0, by rw [h0], fun w0 w I' L' _ _ _ j u hj => ?_⟩; rw [List.eq_nil_of_length_eq_zero h0] at hj
    simp at hj
  · exact ⟨_, _, rfl, fun w0 w I' L' _ hL hst j u hj => ⟨_, rfl, hc w0 w I' L' hL hst j u hj⟩⟩
theorem SrcH.mono {v : Value} {hs : List HRow} (h : SrcH I L v hs) {I' : Imm} {L' : Own} (hI : I.le I') (hL : ∀ p ∈ L, p ∈ L') : SrcH I' L' v hs := by
  obtain ⟨B, c, e, h⟩ := h; exact ⟨B, c, e, fun w0 w I2 L2 h1 h2 hst j u hj => h w0 w I2 L2 (hI.trans h1) (fun p hp => h2 p (hL p hp)) hst j u hj⟩
theorem hrow_one (hs : List HRow) : ∀ u ∈ hs.flatMap hrow, u.oneCell' = true := by
  intro u hu; obtain ⟨r, _, h⟩ := List.mem_flatMap.1 hu
  simp only [hrow, List.mem_cons, List.not_mem_nil, or_false] at h
  rcases h with rfl | rfl <;> rfl
theorem flat_len2 (hs : List HRow) : (hs.flatMap hrow).length = hs.length * 2 := by
  induction hs with
  | nil => rfl
  | cons r t ih => rw [List.flatMap_cons, List.length_append, ih, hrow_len, List.length_cons]; omega
structure It where
  id : Int
  kind : Int
  group : Int
  name : ByteArray
  method : ByteArray
  url : ByteArray
  heads : List HRow
  body : ByteArray
  mode : Int
  creds : Int
  page : ByteArray
  csp : ByteArray
  refer : Int
  nurl : ByteArray
  nmethod : ByteArray
  nbody : ByteArray
  hops : Int
  tries : Int
  til : Int
  tainted : Bool
  got : ByteArray
  tag : ByteArray
  state : Int
  code : Int
  acked : Bool
abbrev itv (it : It) (vh : Value) : Value := .agg #[.int .i64 it.id, .int .i64 it.kind, .int .i64 it.group, .string it.name, .string it.method, .string it.url, vh, .string it.body, .int .i64 it.mode, .int .i64 it.creds, .string it.page, .string it.csp, .int .i64 it.refer, .string it.nurl, .string it.nmethod, .string it.nbody, .int .i64 it.hops, .int .i64 it.tries, .int .i64 it.til, .bool it.tainted, .string it.got, .string it.tag, .int .i64 it.state, .int .i64 it.code, .bool it.acked]
def zeroIt : It := ⟨0, 0, 0, .empty, .empty, .empty, [], .empty, 0, 0, .empty, .empty, 0, .empty, .empty, .empty, 0, 0, 0, false, .empty, .empty, 0, 0, false⟩
theorem it_one (it : It) {vh : Value} (h : vh.oneCell' = true) : [Value.int .i64 it.id, Value.int .i64 it.kind, Value.int .i64 it.group, Value.string it.name, Value.string it.method, Value.string it.url, vh, Value.string it.body, Value.int .i64 it.mode, Value.int .i64 it.creds, Value.string it.page, Value.string it.csp, Value.int .i64 it.refer, Value.string it.nurl, Value.string it.nmethod, Value.string it.nbody, Value.int .i64 it.hops, Value.int .i64 it.tries, Value.int .i64 it.til, Value.bool it.tainted, Value.string it.got, Value.string it.tag, Value.int .i64 it.state, Value.int .i64 it.code, Value.bool it.acked].all Value.oneCell' = true := by
  simp only [List.all_cons, h, List.all_nil]
  rfl
abbrev TRow := Int × (It × Value)
def trend (rows : List TRow) : List (Int × Value) := rend (fun p => itv p.1 p.2) rows
def TbO (I : Imm) (rows : List TRow) (next : Int) (bT : Nat) (Lt : Own) : Prop := ∃ bM oM, Lt = [(bT, .cells #[.map (some bM), .int .i64 next] 84), (bM, oM)] ∧ MapR kI oM (trend rows) ∧ (rows.map Prod.fst).Nodup ∧
  (∀ r ∈ rows, i64ok r.1 ∧ RdH I r.2.2 r.2.1.heads ∧ r.2.1.heads.length ≤ 100000000) ∧ i64ok next
theorem RdH.mono {I' : Imm} {v : Value} {hs : List HRow} (h : RdH I v hs) (hI : I.le I') : RdH I' v hs := RdL.mono hI h
theorem TbO.mono {I' : Imm} {rows : List TRow} {next : Int} {bT : Nat} {Lt : Own} (h : TbO I rows next bT Lt) (hI : I.le I') : TbO I' rows next bT Lt := by
  obtain ⟨bM, oM, e, h1, h2, h3, h4⟩ := h; exact ⟨bM, oM, e, h1, h2, fun r hr => ⟨(h3 r hr).1, (h3 r hr).2.1.mono hI, (h3 r hr).2.2⟩, h4⟩
theorem pput_mem {α : Type} {rows : List (Int × α)} {k : Int} {v : α} {r : Int × α} (h : r ∈ pput rows k v) : r = (k, v) ∨ r ∈ rows := by
  induction rows with
  | nil => exact .inl (by simpa [pput] using h)
  | cons p t ih =>
    obtain ⟨a, u⟩ := p; unfold pput at h
    by_cases hk : k = a
    · rw [if_pos hk] at h
      rcases List.mem_cons.1 h with e | h
      · exact .inl (by rw [e, hk])
      · exact .inr (List.mem_cons_of_mem _ h)
    · rw [if_neg hk] at h
      rcases List.mem_cons.1 h with e | h
      · exact .inr (by rw [e]; exact List.mem_cons_self ..)
      · exact (ih h).imp id (List.mem_cons_of_mem _)
theorem pdel_mem {α : Type} {rows : List (Int × α)} {k : Int} {r : Int × α} (h : r ∈ pdel rows k) : r ∈ rows := by
  induction rows with
  | nil => cases h
  | cons p t ih =>
    obtain ⟨a, u⟩ := p; unfold pdel at h
    by_cases hk : k = a
    · rw [if_pos hk] at h; exact List.mem_cons_of_mem _ h
    · rw [if_neg hk] at h
      rcases List.mem_cons.1 h with e | h
      · rw [e]; exact List.mem_cons_self ..
      · exact List.mem_cons_of_mem _ (ih h)
theorem wf_of {k : Int} (h : i64ok k) : (Lit.int .i64 k).wf = true := by
  unfold i64ok at h
  simp only [Lit.wf, Bool.and_eq_true, decide_eq_true_eq]
  exact h
def keysUp {α : Type} (rows : List (Int × α)) : List Int := (rows.map Prod.fst).mergeSort fun x y => decide (x ≤ y)
end Go.Proofs.YtadgbifmiooikaaX
namespace Go.Proofs.YtadgbifmiooikaaX
set_option linter.unusedVariables false
set_option linter.unusedSimpArgs false
open Go Go.RowKit Go.Proofs
set_option maxRecDepth 100000 in
set_option maxHeartbeats 1000000 in
theorem hclone_spec {w0 w : World} {I : Imm} {L : Own} (hst : St w0 w I L) {v : Value} {hs : List HRow} (hv : SrcH I L v hs) (hlen : hs.length ≤ 100000000) :
    Calls Try.prog 56 #[v] w fun e w' => ∃ v' Lv', e = .returned v' ∧ St w0 w' I (Lv' ++ L) ∧ Grow 31 2 v' (hs).length ((hs).flatMap hrow) Lv' := by
  obtain ⟨A, c, rfl, hsrc⟩ := hv; refine enter Try.func56 rfl (N := 8) rfl rfl ?_
  simp only [List.zipIdx_cons, List.zipIdx_nil, List.map_cons, List.map_nil, Nat.zero_add, Nat.reduceAdd]
  have hle := Imm.le.refl I; refine CW.seq ?_; refine CW.region ?_; refine RW.op1 rfl (runs_assign rfl) ?_; refine RW.done ?_; refine AQ.next ?_; refine CW.seq ?_; refine CW.seq ?_; refine CW.region ?_; refine RW.op1 rfl (runs_move rfl) ?_; refine RW.op1 rfl (runs_eq_nilslice Try.underlying32 rfl) ?_; refine RW.done ?_; refine AQ.next ?_; refine CW.cond rfl (fun hc4 => ?_) (fun hc4 => ?_)
  · have hcb4 := hc4; try simp only [decide_eq_true_eq, decide_eq_false_iff_not] at hc4
    refine CW.seq ?_; refine CW.region ?_; refine RW.op1 rfl (runs_assign rfl) ?_; refine RW.done ?_; refine AQ.next ?_; refine CW.ret ?_; refine AQ.past_ret ?_; refine AQ.ret1 rfl rfl ?_
    have h0 : A = none := by simpa using hcb4
    subst h0
    have h1 : hs = [] := by
      cases hs with
      | nil => rfl
      | cons r t => obtain ⟨a, h, _⟩ := hsrc w0 w I L (Imm.le.refl _) (fun p hp => hp) hst 0 (.string r.1) rfl; cases h
    subst h1; exact ⟨_, [], rfl, hst, Grow.nil _ _⟩
  · have hcb4 := hc4; try simp only [decide_eq_true_eq, decide_eq_false_iff_not] at hc4
    refine CW.skip ?_; refine AQ.next ?_; refine CW.seq ?_; refine CW.region ?_; refine RW.opE rfl (runs_litF (xs := []) (size := 2) Try.underlying32 ti31 (by decide) rfl rfl rfl rfl rfl hst (by decide)) ?_; rintro u1 w ⟨Lv1, hstn, hg1⟩; clear hst; have hst := hstn; clear hstn; have hsr2 := hsrc w0 w I (Lv1 ++ L) (Imm.le.refl _) (fun p hp => List.mem_append_right _ hp) hst; have hg5 := hg1; refine RW.op1 rfl (runs_move rfl) ?_; refine RW.opE rfl (runs_appendG Try.underlying32 ti31 rfl (by decide) rfl rfl hst hg5 (flat_len2 hs) hsr2 (hrow_one hs) (by omega) (by unfold maxLen; omega)) ?_; rintro u2 w ⟨Lv2, hstn, hg2⟩; clear hst; have hst := hstn; clear hstn; refine RW.op1 rfl (runs_assign rfl) ?_; refine RW.done ?_; refine AQ.next ?_; refine CW.ret ?_; refine AQ.ret1 rfl rfl ?_; refine ⟨_, _, rfl, hst, ?_⟩
    simpa using hg2
set_option maxRecDepth 100000 in
set_option maxHeartbeats 1000000 in
theorem own_spec {w0 w : World} {I : Imm} {L : Own} (hst : St w0 w I L) {it : It} {vh : Value} (hv : SrcH I L vh it.heads) (hlen : it.heads.length ≤ 100000000) :
    Calls Try.prog 36 #[itv it vh] w fun e w' => ∃ v' Lv', e = .returned (itv it v') ∧ St w0 w' I (Lv' ++ L) ∧ v'.oneCell' = true ∧ Grow 31 2 v' (it.heads).length ((it.heads).flatMap hrow) Lv' := by
  have hv0 := hv; obtain ⟨A, c, rfl, _⟩ := hv0; refine enter Try.func36 rfl (N := 10) rfl rfl ?_
  simp only [List.zipIdx_cons, List.zipIdx_nil, List.map_cons, List.map_nil, Nat.zero_add, Nat.reduceAdd]
  have hle := Imm.le.refl I; refine CW.seq ?_; refine CW.region ?_; refine RW.opE rfl (runs_box rfl hst) ?_; rintro _ w ⟨b1, rfl, hstn⟩; clear hst; have hst := hstn; clear hstn; refine RW.opE rfl (runs_alloc ti38 hst) ?_; rintro _ w ⟨b2, rfl, hstn⟩; clear hst; have hst := hstn; clear hstn; refine RW.done ?_; refine AQ.next ?_; refine CW.seq ?_; refine CW.region ?_
  refine RW.op1 rfl (runs_fieldAddr0 rfl Try.underlying38 rfl ti34 (by decide)) ?_
  refine RW.op1 rfl (runs_fieldAddr0 rfl Try.underlying34 rfl ti32 (by decide)) ?_
  refine RW.op1 rfl (runs_load1 sc32 rfl (hst.cell_own (k := 1) rfl rfl)) ?_
  refine RW.call rfl call56 rfl rfl (hclone_spec hst (hv.mono (Imm.le.refl _) (fun p hp => List.mem_cons_of_mem _ (List.mem_cons_of_mem _ hp))) hlen) ?_; rintro e w ⟨v6, Lv6, rfl, hstn, hg6⟩; clear hst; have hst := hstn; clear hstn; replace hst := hst.perm (List.perm_middle.trans (List.Perm.cons _ List.perm_middle))
  have hv6 : v6.oneCell' = true := by obtain ⟨_, _, ⟨rfl, _⟩ | ⟨g, cap, cur, rfl, _⟩⟩ := hg6 <;> rfl
  refine ⟨_, rfl, ?_⟩
  refine RW.op1 rfl (runs_fieldAddr0 rfl Try.underlying38 rfl ti34 (by decide)) ?_
  refine RW.op1 rfl (runs_fieldAddr0 rfl Try.underlying34 rfl ti32 (by decide)) ?_
  refine RW.opE0 (runs_store1P ti32 rfl rfl hst (k := 1) rfl rfl (NoFz.zero _) hv6) ?_; rintro w hstn; clear hst; have hst := hstn; clear hstn; try simp only [List.set_cons_zero, List.set_cons_succ] at hst
  refine RW.done ?_; refine AQ.next ?_; refine CW.seq ?_; refine CW.region ?_
  refine RW.op1 rfl (runs_loadN (vs := _) ag38 ti38 rfl hst (k := 1) rfl rfl rfl) ?_
  refine RW.opE0 (runs_storeW ti38 rfl rfl hst (k := 0) rfl rfl rfl (NoFz.zero _) (it_one it hv6)) ?_; rintro w hstn; clear hst; have hst := hstn; clear hstn; try simp only [List.set_cons_zero, List.set_cons_succ] at hst
  refine RW.done ?_; refine AQ.next ?_; refine CW.ret ?_; refine AQ.retS rfl rfl (hst.loadN (vs := [_, _, _, _, _, _, _, _, _, _, _, _, _, _, _, _, _, _, _, _, _, _, _, _, _]) (k := 0) ag38 ti38 rfl rfl rfl) ?_; exact ⟨v6, Lv6, rfl, hst.drop1.drop1, hv6, hg6⟩
def nextR (next id : Int) : Int := if IntKind.i64.wrap (id + 1) > next then IntKind.i64.wrap (id + 1) else next
theorem wrapT_ok (n : Int) : i64ok (IntKind.i64.wrap n) := by rw [IntKind.wrap_i64]; unfold i64ok; omega
theorem nextR_ok {next id : Int} (h : i64ok next) : i64ok (nextR next id) := by
  unfold nextR
  split
  · exact wrapT_ok _
  · exact h
theorem nextR_of {next id : Int} (h : i64ok (id + 1)) : nextR next id = if id + 1 > next then id + 1 else next := by
  have : IntKind.i64.wrap (id + 1) = id + 1 := by unfold i64ok at h; rw [IntKind.wrap_i64]; omega
  unfold nextR; rw [this]
theorem mget_t (rows : List TRow) (k : Int) : mget (trend rows) k = (pget rows k).map fun p => itv p.1 p.2 := mget_rend rows k
theorem mput_t (rows : List TRow) (k : Int) (it : It) (v : Value) : mput (trend rows) k (itv it v) = trend (pput rows k (it, v)) := mput_rend (g := fun p : It × Value => itv p.1 p.2) rows k (it, v)
theorem mdel_t (rows : List TRow) (k : Int) : mdel (trend rows) k = trend (pdel rows k) := mdel_rend rows k
set_option maxRecDepth 100000 in
set_option maxHeartbeats 1000000 in
theorem tnew_spec {w0 w : World} {I : Imm} {L : Own} (hst : St w0 w I L) :
    Calls Try.prog 29 #[] w fun e w' => ∃ bT Lt, e = .returned (.pointer (some ⟨bT, 0, none⟩)) ∧ St w0 w' I (Lt ++ L) ∧ TbO I [] 1 bT Lt := by
  refine enter Try.func29 rfl (N := 4) rfl rfl ?_
  simp only [List.zipIdx_cons, List.zipIdx_nil, List.map_cons, List.map_nil, Nat.zero_add, Nat.reduceAdd]
  have hle := Imm.le.refl I; refine CW.seq ?_; refine CW.region ?_; refine RW.op1 rfl (runs_assign rfl) ?_; refine RW.done ?_; refine AQ.next ?_; refine CW.seq ?_; refine CW.region ?_; refine RW.opE rfl (runs_makeMap hst) ?_; rintro _ w ⟨b1, rfl, hstn⟩; clear hst; have hst := hstn; clear hstn; refine RW.op1 rfl (runs_buildF (cells := [_, _]) bz84 rfl rfl rfl rfl rfl) ?_; refine RW.opE rfl (runs_box rfl hst) ?_; rintro _ w ⟨b2, rfl, hstn⟩; clear hst; have hst := hstn; clear hstn; refine RW.op1 rfl (runs_assign rfl) ?_; refine RW.done ?_; refine AQ.next ?_; refine CW.ret ?_; refine AQ.ret1 rfl rfl ?_; exact ⟨b2, [_, _], rfl, hst, b1, _, rfl, MapR.empty kI, List.nodup_nil, by simp, by unfold i64ok; decide⟩
set_option maxRecDepth 100000 in
set_option maxHeartbeats 1000000 in
theorem put_spec {w0 w : World} {I : Imm} {L : Own} {rows : List TRow} {next : Int} {bT : Nat} {Lt : Own} (hd : TbO I rows next bT Lt) (hst : St w0 w I (Lt ++ L)) {it : It} {vh : Value} (hv : SrcH I L vh it.heads) (hlen : it.heads.length ≤ 100000000) (hid : i64ok it.id) :
    Calls Try.prog 48 #[.pointer (some ⟨bT, 0, none⟩), itv it vh] w fun e w' => ∃ I' v' Lt', I.le I' ∧ e = .returned (.tuple #[]) ∧ St w0 w' I' (Lt' ++ L) ∧ TbO I' (pput rows it.id (it, v')) (nextR next it.id) bT Lt' := by
  obtain ⟨bM, oM, rfl, hm, hnd, hrows, hnx⟩ := hd; have hv0 := hv; obtain ⟨A, c, rfl, _⟩ := hv0; refine enter Try.func48 rfl (N := 23) rfl rfl ?_
  simp only [List.zipIdx_cons, List.zipIdx_nil, List.map_cons, List.map_nil, Nat.zero_add, Nat.reduceAdd]
  have hle := Imm.le.refl I; refine CW.seq ?_; refine CW.region ?_; refine RW.opE rfl (runs_box rfl hst) ?_; rintro _ w ⟨b1, rfl, hstn⟩; clear hst; have hst := hstn; clear hstn; refine RW.done ?_; refine AQ.next ?_; refine CW.seq ?_; refine CW.draw (FSt w0 I ((b1, _) :: (bT, Obj.cells #[.map (some bM), .int .i64 next] 84) :: L)) (.q 0 (.q 1 (.q 2 (.q 3 (.q 4 (.q 5 (.q 6 (.l 7 (.l 8 .nil))))))))) follows (by kernel_rfl) ⟨_, Imm.le.refl _, hst.draw.sub (((List.sublist_cons_self _ _).cons_cons _).cons_cons _)⟩ ?_; replace hst := hst.draw; refine DRW.q rfl rfl (fun w' hF => runs_move rfl) ?_; refine DRW.q rfl rfl (fun w' hF => runs_nilCheck rfl) ?_
  refine DRW.q rfl rfl (fun w' hF => runs_fieldAddr0 rfl Try.underlying84 rfl ti82 (by decide)) ?_
  refine DRW.q rfl rfl (FSt.load1_own sc82 rfl (k := 1) rfl rfl) ?_
  refine DRW.q rfl rfl (fun w' hF => runs_fieldAddr0 rfl Try.underlying38 rfl ti3 (by decide)) ?_
  refine DRW.q rfl rfl (FSt.load1_own sc3 rfl (k := 0) rfl rfl) ?_
  refine DRW.q rfl rfl (FSt.loadN (vs := _) ag38 ti38 rfl (k := 0) rfl rfl rfl) ?_
  refine DRW.call rfl rfl call36 rfl rfl (own_spec hst (hv.mono (Imm.le.refl _) (fun p hp => by simp [hp])) hlen) ?_; rintro e w ⟨v11, Lv11, rfl, hstn, hv11, hg11⟩; clear hst; have hst := hstn; clear hstn; obtain ⟨J, hJ, hstn, hfz⟩ := hg11.freeze hst; clear hst; have hst := hstn; clear hstn; replace hle := hle.trans hJ; refine ⟨_, rfl, FSt.of hst hJ (((List.sublist_cons_self _ _).cons_cons _).cons_cons _), ?_⟩; refine DRW.opE0 rfl (runs_mapUpdate (i := 2) (keyI Try.underlying3) Try.underlying82 rfl rfl rfl hst rfl hm) ?_; rintro w ⟨o8, hstn, hm8⟩; clear hst; have hst := hstn; clear hstn; refine ⟨FSt.of hst hJ (((List.sublist_cons_self _ _).cons_cons _).cons_cons _), ?_⟩; try simp only [List.set_cons_zero, List.set_cons_succ] at hst
  refine DRW.done ?_; refine AQ.next ?_; refine CW.draw (fun _ => True) (.q 0 (.q 1 (.q 2 (.q 3 (.q 5 (.fork (.l 4 (.l 6 (.q 7 (.q 8 (.q 9 (.q 10 (.l 11 .nil))))))) (.l 6 (.q 7 (.l 4 (.q 8 (.q 9 (.q 10 (.l 11 .nil))))))))))))) follows (by kernel_rfl) trivial ?_; replace hst := hst.draw; refine DRW.q rfl rfl (fun w' hF => runs_move rfl) ?_; refine DRW.q rfl rfl (fun w' hF => runs_move rfl) ?_; refine DRW.q rfl rfl (fun w' hF => runs_nilCheck rfl) ?_
  refine DRW.q rfl rfl (fun w' hF => runs_fieldAddr0 rfl Try.underlying84 rfl ti3 (by decide)) ?_
  refine DRW.q rfl rfl (fun w' hF => runs_fieldAddr0 rfl Try.underlying38 rfl ti3 (by decide)) ?_
  refine DRW.fork ?_ ?_
  · refine DRW.op1 rfl rfl (runs_load1 sc3 rfl (hst.cell_own (k := 1) rfl rfl)) trivial ?_
    refine DRW.op1 rfl rfl (runs_load1 sc3 rfl (hst.cell_own (k := 0) rfl rfl)) trivial ?_
    refine DRW.q rfl rfl (fun w' hF => runs_addW rfl rfl) ?_; refine DRW.q rfl rfl (fun w' hF => runs_max rfl rfl) ?_; refine DRW.q rfl rfl (fun w' hF => runs_nilCheck rfl) ?_
    refine DRW.q rfl rfl (fun w' hF => runs_fieldAddr0 rfl Try.underlying84 rfl ti3 (by decide)) ?_
    refine DRW.opE0 rfl (runs_store1P ti3 rfl rfl hst (k := 1) rfl rfl (NoFz.zero _) rfl) ?_
    rintro w hstn; clear hst; have hst := hstn; clear hstn; try simp only [List.set_cons_zero, List.set_cons_succ] at hst
    refine ⟨trivial, ?_⟩; refine DRW.done ?_; refine AQ.end0 rfl ?_; rw [mput_t] at hm8; refine ⟨J, v11, [_, _], hle, rfl, hst.drop1, bM, o8, rfl, hm8, pput_nodup hnd _ _, fun r hr => ?_, nextR_ok hnx⟩
    rcases pput_mem hr with rfl | hr
    · exact ⟨hid, hfz, hlen⟩
    · exact ⟨(hrows r hr).1, (hrows r hr).2.1.mono hJ, (hrows r hr).2.2⟩
  refine DRW.op1 rfl rfl (runs_load1 sc3 rfl (hst.cell_own (k := 0) rfl rfl)) trivial ?_
  refine DRW.q rfl rfl (fun w' hF => runs_addW rfl rfl) ?_
  refine DRW.op1 rfl rfl (runs_load1 sc3 rfl (hst.cell_own (k := 1) rfl rfl)) trivial ?_
  refine DRW.q rfl rfl (fun w' hF => runs_max rfl rfl) ?_; refine DRW.q rfl rfl (fun w' hF => runs_nilCheck rfl) ?_
  refine DRW.q rfl rfl (fun w' hF => runs_fieldAddr0 rfl Try.underlying84 rfl ti3 (by decide)) ?_
  refine DRW.opE0 rfl (runs_store1P ti3 rfl rfl hst (k := 1) rfl rfl (NoFz.zero _) rfl) ?_
  rintro w hstn; clear hst; have hst := hstn; clear hstn; try simp only [List.set_cons_zero, List.set_cons_succ] at hst
  refine ⟨trivial, ?_⟩; refine DRW.done ?_; refine AQ.end0 rfl ?_; rw [mput_t] at hm8; refine ⟨J, v11, [_, _], hle, rfl, hst.drop1, bM, o8, rfl, hm8, pput_nodup hnd _ _, fun r hr => ?_, nextR_ok hnx⟩
  rcases pput_mem hr with rfl | hr
  · exact ⟨hid, hfz, hlen⟩
  · exact ⟨(hrows r hr).1, (hrows r hr).2.1.mono hJ, (hrows r hr).2.2⟩
set_option maxRecDepth 100000 in
set_option maxHeartbeats 1000000 in
theorem next_spec {w0 w : World} {I : Imm} {L : Own} {rows : List TRow} {next : Int} {bT : Nat} {Lt : Own} (hd : TbO I rows next bT Lt) (hst : St w0 w I (Lt ++ L)) :
    Calls Try.prog 19 #[.pointer (some ⟨bT, 0, none⟩)] w fun e w' => e = .returned (.int .i64 next) ∧ St w0 w' I (Lt ++ L) := by
  obtain ⟨bM, oM, rfl, hm, hnd, hrows, hnx⟩ := hd; refine enter Try.func19 rfl (N := 7) rfl rfl ?_
  simp only [List.zipIdx_cons, List.zipIdx_nil, List.map_cons, List.map_nil, Nat.zero_add, Nat.reduceAdd]
  have hle := Imm.le.refl I; refine CW.seq ?_; refine CW.region ?_; refine RW.op1 rfl (runs_assign rfl) ?_; refine RW.done ?_; refine AQ.next ?_; refine CW.seq ?_; refine CW.region ?_; refine RW.op1 rfl (runs_move rfl) ?_; refine RW.op1 rfl (runs_nilCheck rfl) ?_
  refine RW.op1 rfl (runs_fieldAddr0 rfl Try.underlying84 rfl ti3 (by decide)) ?_
  refine RW.op1 rfl (runs_load1 sc3 rfl (hst.cell_own (k := 0) rfl rfl)) ?_
  refine RW.op1 rfl (runs_assign rfl) ?_; refine RW.done ?_; refine AQ.next ?_; refine CW.ret ?_; refine AQ.ret1 rfl rfl ?_; exact ⟨rfl, hst⟩
set_option maxRecDepth 100000 in
set_option maxHeartbeats 1000000 in
theorem drop_spec {w0 w : World} {I : Imm} {L : Own} {rows : List TRow} {next : Int} {bT : Nat} {Lt : Own} (hd : TbO I rows next bT Lt) (hst : St w0 w I (Lt ++ L)) (id : Int) :
    Calls Try.prog 49 #[.pointer (some ⟨bT, 0, none⟩), .int .i64 id] w fun e w' => ∃ Lt', e = .returned (.bool (pget rows id).isSome) ∧ St w0 w' I (Lt' ++ L) ∧ TbO I (pdel rows id) next bT Lt' := by
  obtain ⟨bM, oM, rfl, hm, hnd, hrows, hnx⟩ := hd
  obtain ⟨it, vh, hq, hvh⟩ : ∃ it vh, ((mget (trend rows) id).getD (itv zeroIt (.slice none 0 0))) = itv it vh ∧ vh.oneCell' = true := by
    rw [mget_t]
    cases hp : pget rows id with
    | none => exact ⟨_, _, rfl, rfl⟩
    | some p =>
      obtain ⟨it, vh⟩ := p; have h2 := (hrows _ (pget_mem hp)).2.1; exact ⟨it, vh, rfl, RdL.one h2⟩
  refine enter Try.func49 rfl (N := 22) rfl rfl ?_
  simp only [List.zipIdx_cons, List.zipIdx_nil, List.map_cons, List.map_nil, Nat.zero_add, Nat.reduceAdd]
  have hle := Imm.le.refl I; refine CW.seq ?_; refine CW.region ?_; refine RW.op1 rfl (runs_assign rfl) ?_; refine RW.done ?_; refine AQ.next ?_; refine CW.seq ?_; refine CW.region ?_; refine RW.op1 rfl (runs_move rfl) ?_; refine RW.op1 rfl (runs_nilCheck rfl) ?_
  refine RW.op1 rfl (runs_fieldAddr0 rfl Try.underlying84 rfl ti82 (by decide)) ?_
  refine RW.op1 rfl (runs_load1 sc82 rfl (hst.cell_own (k := 0) rfl rfl)) ?_
  refine RW.op1 rfl (runs_move rfl) ?_; refine RW.op1 rfl (runs_lookupOk (i := 1) (keyI Try.underlying3) Try.underlying82 ti38 rfl rfl hst rfl hm) ?_; rw [show (Value.agg #[.int .i64 0, .int .i64 0, .int .i64 0, .string .empty, .string .empty, .string .empty, .slice none 0 0, .string .empty, .int .i64 0, .int .i64 0, .string .empty, .string .empty, .int .i64 0, .string .empty, .string .empty, .string .empty, .int .i64 0, .int .i64 0, .int .i64 0, .bool false, .string .empty, .string .empty, .int .i64 0, .int .i64 0, .bool false]) = itv zeroIt (.slice none 0 0) from rfl, hq]; refine RW.op1 rfl (runs_move rfl) ?_; refine RW.op1 rfl (runs_extract rfl rfl) ?_; refine RW.op1 rfl (runs_extract rfl rfl) ?_; refine RW.opE rfl (runs_alloc ti38 hst) ?_; rintro _ w ⟨b1, rfl, hstn⟩; clear hst; have hst := hstn; clear hstn; refine RW.opE0 (runs_storeW ti38 rfl rfl hst (k := 0) rfl rfl rfl (NoFz.zero _) (it_one it hvh)) ?_; rintro w hstn; clear hst; have hst := hstn; clear hstn; try simp only [List.set_cons_zero, List.set_cons_succ] at hst
  refine RW.op1 rfl (runs_assign rfl) ?_; refine RW.done ?_; refine AQ.next ?_; refine CW.seq ?_; refine CW.region ?_; refine RW.op1 rfl (runs_move rfl) ?_; refine RW.op1 rfl (runs_nilCheck rfl) ?_
  refine RW.op1 rfl (runs_fieldAddr0 rfl Try.underlying84 rfl ti82 (by decide)) ?_
  refine RW.op1 rfl (runs_load1 sc82 rfl (hst.cell_own (k := 1) rfl rfl)) ?_
  refine RW.op1 rfl (runs_move rfl) ?_; refine RW.opE0v (runs_delete (i := 2) (keyI Try.underlying3) Try.underlying82 rfl rfl hst rfl hm) ?_; rintro u w ⟨o8, hstn, hm8⟩; clear hst; have hst := hstn; clear hstn; try simp only [List.set_cons_zero, List.set_cons_succ] at hst
  refine RW.done ?_; refine AQ.next ?_; refine CW.seq ?_; refine CW.region ?_; refine RW.op1 rfl (runs_move rfl) ?_; refine RW.op1 rfl (runs_assign rfl) ?_; refine RW.done ?_; refine AQ.next ?_; refine CW.ret ?_; refine AQ.ret1 rfl rfl ?_; rw [mdel_t] at hm8; refine ⟨[_, _], ?_, hst.drop1, bM, o8, rfl, hm8, pdel_nodup hnd _, fun r hr => hrows r (pdel_mem hr), hnx⟩; rw [mget_t, Option.isSome_map]
set_option maxRecDepth 100000 in
set_option maxHeartbeats 1000000 in
theorem get_spec {w0 w : World} {I : Imm} {L : Own} {rows : List TRow} {next : Int} {bT : Nat} {Lt : Own} (hd : TbO I rows next bT Lt) (hst : St w0 w I (Lt ++ L)) (id : Int) :
    Calls Try.prog 18 #[.pointer (some ⟨bT, 0, none⟩), .int .i64 id] w fun e w' => ∃ (it : It) (v' : Value) (Lv' : Own), e = .returned (.tuple #[itv it v', .bool (pget rows id).isSome]) ∧ St w0 w' I (Lv' ++ (Lt ++ L)) ∧ v'.oneCell' = true ∧ Grow 31 2 v' (it.heads).length ((it.heads).flatMap hrow) Lv' ∧ it.heads.length ≤ 100000000 ∧ ((pget rows id).map Prod.fst).getD zeroIt = it := by
  obtain ⟨bM, oM, rfl, hm, hnd, hrows, hnx⟩ := hd
  obtain ⟨it, vh, hq, hvs, hvl, hit⟩ : ∃ it vh, ((mget (trend rows) id).getD (itv zeroIt (.slice none 0 0))) = itv it vh ∧ RdH I vh it.heads ∧ it.heads.length ≤ 100000000 ∧ ((pget rows id).map Prod.fst).getD zeroIt = it := by
    rw [mget_t]
    cases hp : pget rows id with
    | none => exact ⟨zeroIt, _, rfl, RdL.nil 2, by decide, rfl⟩
    | some p =>
      obtain ⟨it, vh⟩ := p; have h2 := hrows _ (pget_mem hp); exact ⟨it, vh, rfl, h2.2.1, h2.2.2, rfl⟩
  refine enter Try.func18 rfl (N := 20) rfl rfl ?_
  simp only [List.zipIdx_cons, List.zipIdx_nil, List.map_cons, List.map_nil, Nat.zero_add, Nat.reduceAdd]
  have hle := Imm.le.refl I; refine CW.seq ?_; refine CW.region ?_; refine RW.opE rfl (runs_alloc ti38 hst) ?_; rintro _ w ⟨b1, rfl, hstn⟩; clear hst; have hst := hstn; clear hstn; refine RW.op1 rfl (runs_assign rfl) ?_; refine RW.done ?_; refine AQ.next ?_; refine CW.seq ?_; refine CW.region ?_; refine RW.op1 rfl (runs_move rfl) ?_; refine RW.op1 rfl (runs_nilCheck rfl) ?_
  refine RW.op1 rfl (runs_fieldAddr0 rfl Try.underlying84 rfl ti82 (by decide)) ?_
  refine RW.op1 rfl (runs_load1 sc82 rfl (hst.cell_own (k := 1) rfl rfl)) ?_
  refine RW.op1 rfl (runs_move rfl) ?_; refine RW.op1 rfl (runs_lookupOk (i := 2) (keyI Try.underlying3) Try.underlying82 ti38 rfl rfl hst rfl hm) ?_; rw [show (Value.agg #[.int .i64 0, .int .i64 0, .int .i64 0, .string .empty, .string .empty, .string .empty, .slice none 0 0, .string .empty, .int .i64 0, .int .i64 0, .string .empty, .string .empty, .int .i64 0, .string .empty, .string .empty, .string .empty, .int .i64 0, .int .i64 0, .int .i64 0, .bool false, .string .empty, .string .empty, .int .i64 0, .int .i64 0, .bool false]) = itv zeroIt (.slice none 0 0) from rfl, hq]; refine RW.op1 rfl (runs_move rfl) ?_; refine RW.op1 rfl (runs_extract rfl rfl) ?_; refine RW.op1 rfl (runs_extract rfl rfl) ?_; refine RW.opE rfl (runs_alloc ti38 hst) ?_; rintro _ w ⟨b2, rfl, hstn⟩; clear hst; have hst := hstn; clear hstn; refine RW.opE0 (runs_storeW ti38 rfl rfl hst (k := 0) rfl rfl rfl (NoFz.zero _) (it_one it (RdL.one hvs))) ?_; rintro w hstn; clear hst; have hst := hstn; clear hstn; try simp only [List.set_cons_zero, List.set_cons_succ] at hst
  refine RW.op1 rfl (runs_assign rfl) ?_; refine RW.done ?_; refine AQ.next ?_; refine CW.seq ?_; refine CW.region ?_
  refine RW.op1 rfl (runs_loadN (vs := _) ag38 ti38 rfl hst (k := 0) rfl rfl rfl) ?_
  refine RW.call rfl call36 rfl rfl (own_spec hst (hvs.srcH _) hvl) ?_; rintro e w ⟨v18, Lv18, rfl, hstn, hv18, hg18⟩; clear hst; have hst := hstn; clear hstn; replace hst := hst.perm (List.perm_middle.trans (List.Perm.cons _ List.perm_middle)); refine ⟨_, rfl, ?_⟩; refine RW.op1 rfl (runs_move rfl) ?_; refine RW.opE0 (runs_storeW ti38 rfl rfl hst (k := 1) rfl rfl rfl (NoFz.zero _) (it_one it hv18)) ?_; rintro w hstn; clear hst; have hst := hstn; clear hstn; try simp only [List.set_cons_zero, List.set_cons_succ] at hst
  refine RW.op1 rfl (runs_assign rfl) ?_; refine RW.done ?_; refine AQ.next ?_; refine CW.ret ?_; refine AQ.retL (rs := [.cell 4 38, .tmp 5]) (vs := [_, _]) rfl ⟨⟨_, rfl, hst.loadN (vs := [_, _, _, _, _, _, _, _, _, _, _, _, _, _, _, _, _, _, _, _, _, _, _, _, _]) (k := 1) ag38 ti38 rfl rfl rfl⟩, rfl, trivial⟩ (by simp) ?_; exact ⟨it, v18, Lv18, by rw [mget_t, Option.isSome_map], hst.drop1.drop1, hv18, hg18, hvl, hit⟩
end Go.Proofs.YtadgbifmiooikaaX
namespace Go.Proofs.YtadgbifmiooikaaX
set_option linter.unusedVariables false
set_option linter.unusedSimpArgs false
open Go Go.RowKit Go.Proofs
theorem sorts_spec (m : Nat) : AnyZI.SortsIn Try.prog Try.sortedA_ren Fence.wide m :=
  ⟨fun blk off cap ss W hH hblk hsz => callsIn_wide.2 (Try.slices_Sort_int blk off cap ss W hH hblk hsz), fun p cap W => callsIn_wide.2 (Try.slices_Sort_int_none p cap W)⟩
theorem keysA_spec {w0 w : World} {I : Imm} {L : Own} (hst : St w0 w I L) (b : Nat) : Calls Try.prog 38 #[.map (some b)] w fun e w' => ∃ b1, e = .returned (.func (.func 59) #[] #[.pointer (some ⟨b1, 0, none⟩)]) ∧ St w0 w' I ((b1, .cells #[.map (some b)] 82) :: L) := by
  have h : CallsIn Fence.wide 5 Try.prog 38 #[.map (some b)] w fun e w' => e = .returned (.func (.func 59) #[] #[.pointer (some ⟨w.heap.size, 0, none⟩)]) ∧ w' = w.alloc (.cells #[.map (some b)] 82) := AnyZI.keys_in Try.keysA Fence.wide 5 trivial rfl (some b) w
  refine (callsIn_wide.1 h).mono ?_; rintro e w' ⟨rfl, rfl⟩; exact ⟨_, rfl, hst.heap_new _⟩
theorem sortedA_spec {w0 w : World} {I : Imm} {L : Own} {b1 bM : Nat} {oM : Obj} {rows : List (Int × Value)} (hst : St w0 w I ((b1, .cells #[.map (some bM)] 82) :: L)) (hin : (bM, oM) ∈ L) (hm : MapR kI oM rows) (hnd : (rows.map Prod.fst).Nodup) (hw : ∀ r ∈ rows, i64ok r.1) (hz : rows.length ≤ 1000000) :
    Calls Try.prog 37 #[.func (.func 59) #[] #[.pointer (some ⟨b1, 0, none⟩)]] w fun e w' => ∃ I' v, I.le I' ∧ e = .returned v ∧ St w0 w' I' L ∧ RdI I' v ((rows.map Prod.fst).mergeSort fun x y => decide (x ≤ y)) := by
  have hb : w.heap[bM]? = some oM := hst.own _ (List.mem_cons_of_mem _ hin); obtain ⟨D, hown, hperm, hsz⟩ := hm.owns (P := Try.prog) (kt := 3) Try.underlying3 hb hnd (fun r hr => wf_of (hw r hr)) (by unfold maxLen; omega)
  have hseq : SeqGives Fence.wide 2 Try.prog 59 #[.pointer (some ⟨b1, 0, none⟩)] encZ (fun ss => ss.Perm (intKeys D)) (Maps.size D) w :=
    AnyZI.keys_gives (ρ := Try.keysA_ren) { Try.keysA with } Fence.wide _ trivial rfl (by omega) b1 bM _ D w (hst.lt_own (p := (b1, _)) (List.mem_cons_self ..)) (hst.cell_own (k := 0) rfl rfl) hown
  have h := AnyZI.sorted_in Try.sortedA Fence.wide 5 trivial trivial trivial trivial rfl (by omega) (sorts_spec _) (enters_of Try.func58 (by kernel_rfl) rfl) 59 #[.pointer (some ⟨b1, 0, none⟩)] trivial (enters_of Try.func59 (by kernel_rfl) rfl) _ _ (by rw [hsz]; unfold maxLen; omega) (by rw [hsz]; omega) _ hseq
  change CallsIn Fence.wide 5 Try.prog 37 _ _ _ at h
  refine (callsIn_wide.1 h).mono ?_; rintro e w' ⟨v, ss, rfl, hS, hrow, _, hbl⟩; have hrow2 : w'.ownsRow w.heap.size 3 1 v ss.length ((ss.mergeSort (fun x y => decide (x ≤ y))).map encZ) := hrow
  obtain ⟨Lv, hst2, hg⟩ := hst.drop1.ownsRow hbl hrow2 (by
    intro u hu; obtain ⟨x, _, rfl⟩ := List.mem_map.1 hu
    rfl)
  obtain ⟨I', h1, h2, h3⟩ := hg.freeze hst2; refine ⟨I', v, h1, rfl, h2, ?_⟩; have e : ss.mergeSort (fun x y => decide (x ≤ y)) = (rows.map Prod.fst).mergeSort (fun x y => decide (x ≤ y)) := mergeSort_of_perm_i (hS.trans hperm)
  have hl : ss.length = ((rows.map Prod.fst).mergeSort fun x y => decide (x ≤ y)).length := by rw [← e, List.length_mergeSort]
  rw [e, hl] at h3; exact h3
set_option maxRecDepth 100000 in
set_option maxHeartbeats 1000000 in
theorem ids_spec {w0 w : World} {I : Imm} {L : Own} {rows : List TRow} {next : Int} {bT : Nat} {Lt : Own} (hd : TbO I rows next bT Lt) (hst : St w0 w I (Lt ++ L)) (hz : rows.length ≤ 1000000) :
    Calls Try.prog 20 #[.pointer (some ⟨bT, 0, none⟩)] w fun e w' => ∃ I' v, I.le I' ∧ e = .returned v ∧ St w0 w' I' (Lt ++ L) ∧ RdI I' v (keysUp rows) := by
  obtain ⟨bM, oM, rfl, hm, hnd, hrows, hnx⟩ := hd; refine enter Try.func20 rfl (N := 9) rfl rfl ?_
  simp only [List.zipIdx_cons, List.zipIdx_nil, List.map_cons, List.map_nil, Nat.zero_add, Nat.reduceAdd]
  have hle := Imm.le.refl I; refine CW.seq ?_; refine CW.region ?_; refine RW.op1 rfl (runs_assign rfl) ?_; refine RW.done ?_; refine AQ.next ?_; refine CW.seq ?_; refine CW.region ?_; refine RW.op1 rfl (runs_move rfl) ?_; refine RW.op1 rfl (runs_nilCheck rfl) ?_
  refine RW.op1 rfl (runs_fieldAddr0 rfl Try.underlying84 rfl ti82 (by decide)) ?_
  refine RW.op1 rfl (runs_load1 sc82 rfl (hst.cell_own (k := 0) rfl rfl)) ?_
  refine RW.call rfl call38 rfl rfl (keysA_spec hst bM) ?_; rintro e w ⟨b7, rfl, hstn⟩; clear hst; have hst := hstn; clear hstn; refine ⟨_, rfl, ?_⟩
  refine RW.call rfl call37 rfl rfl (sortedA_spec hst (show (bM, oM) ∈ _ from by simp) hm (by unfold trend; rw [rend_keys]; exact hnd) (fun r hr => by
    unfold trend rend at hr; obtain ⟨q, hq, rfl⟩ := List.mem_map.1 hr
    exact (hrows q hq).1) (by unfold trend; rw [rend_len]; exact hz)) ?_
  rintro e w ⟨I8, v8, hI8, rfl, hstn, hv8⟩; clear hst; have hst := hstn; clear hstn; replace hle := hle.trans hI8; refine ⟨_, rfl, ?_⟩; refine RW.op1 rfl (runs_assign rfl) ?_; refine RW.done ?_; refine AQ.next ?_; refine CW.ret ?_; refine AQ.ret1 rfl rfl ?_; refine ⟨_, v8, hle, rfl, hst, ?_⟩; unfold trend at hv8; rw [rend_keys] at hv8; exact hv8
end Go.Proofs.YtadgbifmiooikaaX
namespace Go.Proofs.YtadgbifmiooikaaX
set_option linter.unusedVariables false
set_option linter.unusedSimpArgs false
open Go Go.RowKit Go.Proofs
set_option maxRecDepth 100000 in
set_option maxHeartbeats 1000000 in
theorem sameI_spec {w0 w : World} {I : Imm} {L : Own} (hst : St w0 w I L) {va vb : Value} {xs : List Int} (ha : RdI I va xs) (hb : RdI I vb xs) (hlen : xs.length ≤ 9223372036854775806) :
    Calls Try.prog 11 #[va, vb] w fun e w' => e = .returned (.bool true) ∧ St w0 w' I L := by
  refine enter Try.func11 rfl (N := 26) rfl rfl ?_
  simp only [List.zipIdx_cons, List.zipIdx_nil, List.map_cons, List.map_nil, Nat.zero_add, Nat.reduceAdd]
  have hle := Imm.le.refl I; refine CW.seq ?_; refine CW.region ?_; refine RW.op1 rfl (runs_assign rfl) ?_; refine RW.done ?_; refine AQ.next ?_; refine CW.seq ?_; refine CW.seq ?_; refine CW.region ?_; refine RW.op1 rfl (runs_move rfl) ?_; refine RW.op1 rfl (RdL.len Try.underlying22 rfl ha) ?_; refine RW.op1 rfl (runs_move rfl) ?_; refine RW.op1 rfl (RdL.len Try.underlying22 rfl hb) ?_; refine RW.op1 rfl (runs_neI rfl rfl) ?_; refine RW.done ?_; refine AQ.next ?_; refine CW.cond rfl (fun hc => absurd hc (by simp)) (fun hc => ?_); refine CW.skip ?_; refine AQ.next ?_; refine CW.seq ?_; refine CW.seq ?_; refine CW.region ?_; refine RW.op1 rfl (runs_assign rfl) ?_; refine RW.done ?_; refine AQ.next ?_; refine CW.block ?_; refine CW.loop Nat (fun k w => St w0 w I L ∧ k ≤ xs.length) (fun k => [(0, va), (1, vb), (5, .int .i64 (k : Int))]) (fun k => xs.length - k) ⟨0, ⟨hst, Nat.zero_le _⟩, ⟨rfl, rfl, rfl, trivial⟩⟩ ?_; rintro k w ⟨hstn, hk⟩; clear hst; have hst := hstn; clear hstn; refine CW.seq ?_; refine CW.seq ?_; refine CW.region ?_; refine RW.op1 rfl (runs_move rfl) ?_; refine RW.op1 rfl (runs_move rfl) ?_; refine RW.op1 rfl (RdL.len Try.underlying22 rfl ha) ?_; refine RW.op1 rfl (runs_lss rfl rfl) ?_; refine RW.done ?_; refine AQ.next ?_; refine CW.cond rfl (fun hc14 => ?_) (fun hc14 => ?_)
  · have hcb14 := hc14; try simp only [decide_eq_true_eq, decide_eq_false_iff_not] at hc14
    refine CW.skip ?_; refine AQ.next ?_; refine CW.seq ?_; refine CW.block ?_; refine CW.seq ?_; refine CW.drawSt hst (.q 0 (.q 1 (.q 2 (.q 3 (.q 4 (.q 5 (.q 6 (.q 7 (.q 8 .nil))))))))) follows (by kernel_rfl) (fun w hst => ?_); refine DRW.q rfl rfl (fun w' hF => runs_move rfl) ?_; refine DRW.q rfl rfl (fun w' hF => runs_move rfl) ?_; refine DRW.q rfl rfl (fun w' hF => RdL.indexAddr Try.underlying22 ti3 (by decide) rfl rfl ha (by omega)) ?_; refine DRW.q rfl rfl (FSt.load1 sc3 rfl (RdI.at ha (by omega) (by omega))) ?_; refine DRW.q rfl rfl (fun w' hF => runs_move rfl) ?_; refine DRW.q rfl rfl (fun w' hF => runs_move rfl) ?_; refine DRW.q rfl rfl (fun w' hF => RdL.indexAddr Try.underlying22 ti3 (by decide) rfl rfl hb (by omega)) ?_; refine DRW.q rfl rfl (FSt.load1 sc3 rfl (RdI.at hb (by omega) (by omega))) ?_; refine DRW.q rfl rfl (fun w' hF => runs_neI rfl rfl) ?_; refine DRW.done ?_; refine AQ.next ?_; refine CW.cond rfl (fun hc => absurd hc (by simp)) (fun hc => ?_); refine CW.skip ?_; refine AQ.block_normal ?_; refine AQ.next ?_; refine CW.region ?_; refine RW.op1 rfl (runs_move rfl) ?_; refine RW.op1 rfl (runs_add rfl rfl (by omega)) ?_; refine RW.op1 rfl (runs_assign rfl) ?_; refine RW.done ?_; exact AQ.again (x := k) (k + 1) ⟨hst, by omega⟩ ⟨rfl, rfl, rfl, trivial⟩ (by omega)
  · have hcb14 := hc14; try simp only [decide_eq_true_eq, decide_eq_false_iff_not] at hc14
    refine CW.exit ?_; refine AQ.past_exit ?_; refine AQ.past_exit ?_; refine AQ.block_hit ?_; refine AQ.next ?_; refine CW.seq ?_; refine CW.region ?_; refine RW.op1 rfl (runs_assign rfl) ?_; refine RW.done ?_; refine AQ.next ?_; refine CW.ret ?_; refine AQ.ret1 rfl rfl ?_; exact ⟨rfl, hst⟩
theorem RdH.nil (I : Imm) : RdH I (.slice none 0 0) [] := RdL.nil 2
theorem St.dropF {I : Imm} {Lt L : Own} {w0 w : World} (hst : St w0 w I (Lt ++ L)) : St w0 w I L := hst.sub (List.sublist_append_right _ _)
theorem neSelf (a : Int) : decide (a ≠ a) = false := by simp
theorem pput_map {α β : Type} (g : α → β) (rows : List (Int × α)) (k : Int) (v : α) : (pput rows k v).map (fun r => (r.1, g r.2)) = pput (rows.map fun r => (r.1, g r.2)) k (g v) := by
  induction rows with
  | nil => rfl
  | cons p r ih =>
    obtain ⟨a, u⟩ := p; rw [List.map_cons]; unfold pput
    split
    · rfl
    · rw [List.map_cons, ih]
theorem pdel_map {α β : Type} (g : α → β) (rows : List (Int × α)) (k : Int) : (pdel rows k).map (fun r => (r.1, g r.2)) = pdel (rows.map fun r => (r.1, g r.2)) k := by
  induction rows with
  | nil => rfl
  | cons p r ih =>
    obtain ⟨a, u⟩ := p; rw [List.map_cons]; unfold pdel
    split
    · rfl
    · rw [List.map_cons, ih]
theorem pget_map {α β : Type} (g : α → β) (rows : List (Int × α)) (k : Int) : pget (rows.map fun r => (r.1, g r.2)) k = (pget rows k).map g := by
  induction rows with
  | nil => rfl
  | cons p r ih =>
    obtain ⟨a, u⟩ := p; rw [List.map_cons]; unfold pget
    split
    · rfl
    · exact ih
theorem keysUp_len {α : Type} (rows : List (Int × α)) : (keysUp rows).length = rows.length := by unfold keysUp; rw [List.length_mergeSort, List.length_map]
theorem keysUp_mem {α : Type} (rows : List (Int × α)) (k : Int) : k ∈ keysUp rows ↔ k ∈ rows.map Prod.fst := by unfold keysUp; exact List.mem_mergeSort
theorem keysUp_lt {α : Type} {rows : List (Int × α)} (hn : (rows.map Prod.fst).Nodup) : (keysUp rows).Pairwise (· < ·) := by
  have h1 : (keysUp rows).Pairwise fun a b => decide (a ≤ b) = true := List.pairwise_mergeSort (fun a b c h1 h2 => by simp only [decide_eq_true_eq] at *; omega) (fun a b => by simp only [Bool.or_eq_true, decide_eq_true_eq]; omega) _
  have h2 : (keysUp rows).Nodup := (List.mergeSort_perm _ _).nodup_iff.2 hn; refine (List.Pairwise.and h1 h2).imp ?_; rintro a b ⟨h, hne⟩
  simp only [decide_eq_true_eq] at h
  omega
theorem iat_mem {l : List Int} {k : Nat} (hk : k < l.length) : iat l (k : Int) ∈ l := by
  unfold iat; rw [Int.toNat_natCast, List.getD_eq_getElem?_getD, List.getElem?_eq_getElem hk]; exact List.getElem_mem hk
end Go.Proofs.YtadgbifmiooikaaX
namespace Go.Proofs.YtadgbifmiooikaaX
set_option linter.unusedVariables false
open Go
inductive AV where
  | num (n : Int)
  | txt (b : ByteArray)
  | flg (t : Bool)
  | oth (v : Value)
def AV.v : AV → Value
  | .num n => .iface 3 (.int .i64 n)
  | .txt b => .iface 9 (.string b)
  | .flg t => .iface 4 (.bool t)
  | .oth v => v
def otherV : Value → Bool
  | .nilIface => true
  | .iface t _ => t != 3 && t != 9 && t != 4
  | _ => false
def AV.good (m : Nat) (o : Bool) : AV → Prop
  | .num n => i64ok n
  | .txt b => b.size ≤ m
  | .flg _ => True
  | .oth v => o = true ∧ otherV v = true
theorem AV.isI {m : Nat} {o : Bool} {a : AV} (h : a.good m o) : isIface a.v = true := by
  cases a with
  | oth v =>
    have := h.2
    cases v <;> simp [otherV] at this <;> rfl
  | _ => rfl
theorem AV.one {m : Nat} {o : Bool} {a : AV} (h : a.good m o) : a.v.oneCell' = true := by
  cases a with
  | oth v =>
    have := h.2
    cases v <;> simp [otherV] at this <;> rfl
  | _ => rfl
theorem AV.asB_num {m : Nat} {o : Bool} {a : AV} (h : a.good m o) (hb : asB 3 a.v = true) : ∃ n, a = .num n := by
  cases a with
  | num n => exact ⟨n, rfl⟩
  | txt b => exact absurd hb (by simp [AV.v, asB])
  | flg t => exact absurd hb (by simp [AV.v, asB])
  | oth v =>
    have h2 := h.2
    cases v <;> simp [otherV, asB, AV.v] at h2 hb
    exact absurd hb h2.1.1
theorem AV.asB_txt {m : Nat} {o : Bool} {a : AV} (h : a.good m o) (hb : asB 9 a.v = true) : ∃ b, a = .txt b := by
  cases a with
  | num n => exact absurd hb (by simp [AV.v, asB])
  | txt b => exact ⟨b, rfl⟩
  | flg t => exact absurd hb (by simp [AV.v, asB])
  | oth v =>
    have h2 := h.2
    cases v <;> simp [otherV, asB, AV.v] at h2 hb
    exact absurd hb h2.1.2
theorem AV.asB_flg {m : Nat} {o : Bool} {a : AV} (h : a.good m o) (hb : asB 4 a.v = true) : ∃ b, a = .flg b := by
  cases a with
  | num n => exact absurd hb (by simp [AV.v, asB])
  | txt b => exact absurd hb (by simp [AV.v, asB])
  | flg t => exact ⟨t, rfl⟩
  | oth v =>
    have h2 := h.2
    cases v <;> simp [otherV, asB, AV.v] at h2 hb
    exact absurd hb h2.2
theorem AV.asB_oth {a : AV} (h1 : asB 3 a.v = false) (h2 : asB 9 a.v = false) (h3 : asB 4 a.v = false) : ∃ v, a = .oth v := by
  cases a with
  | num n => exact absurd h1 (by simp [AV.v, asB])
  | txt b => exact absurd h2 (by simp [AV.v, asB])
  | flg t => exact absurd h3 (by simp [AV.v, asB])
  | oth v => exact ⟨v, rfl⟩
def be8 (n : Int) : List UInt8 := (List.range 8).map fun j => u8 ((IntKind.u64.wrap n).fdiv (2 ^ (8 * (7 - j))))
theorem be8_take (n : Int) {j : Nat} (h : j < 8) : (be8 n).take (j + 1) = (be8 n).take j ++ [u8 ((IntKind.u64.wrap n).fdiv (2 ^ (8 * (7 - j))))] := take_map_range _ 8 j h
theorem be8_length (n : Int) : (be8 n).length = 8 := by simp [be8]
def enc1 : AV → List UInt8
  | .num n => 105 :: be8 n
  | .txt b => 115 :: u8 b.size :: b.toList
  | .flg t => [if t then 116 else 102]
  | .oth _ => []
def enc1Ok : AV → Bool
  | .txt b => decide (b.size ≤ 255)
  | .oth _ => false
  | _ => true
def encA (av : List AV) : List UInt8 := av.flatMap enc1
def encOk (av : List AV) : Bool := av.all enc1Ok
abbrev RdA (I : Imm) (v : Value) (av : List AV) : Prop := RdL I 1 v av.length (av.map AV.v)
abbrev GrowA (v : Value) (av : List AV) (Lv : Own) : Prop := Grow 20 1 v av.length (av.map AV.v) Lv
theorem RdA.at {I : Imm} {v : Value} {av : List AV} {i : Int} (h : RdA I v av) (h0 : 0 ≤ i) (h1 : i < av.length) : I.cell? (slPtr v (i.toNat * 1)) = some (av[i.toNat]'(by omega)).v := by
  refine RdL.cell h ?_
  have : i.toNat < av.length := by omega
  simp [this]
theorem encOk_take {av : List AV} {k : Nat} (hk : k < av.length) (h : encOk (av.take k) = true) (h1 : enc1Ok av[k] = true) : encOk (av.take (k + 1)) = true := by
  unfold encOk at *; rw [List.take_add_one, List.all_append, h, List.getElem?_eq_getElem hk]
  simp [h1]
theorem encOk_no {av : List AV} {k : Nat} (hk : k < av.length) (h1 : enc1Ok av[k] = false) : encOk av = false := by
  unfold encOk; rw [List.all_eq_false]; exact ⟨av[k], List.getElem_mem _, by simp [h1]⟩
theorem encA_take {av : List AV} {k : Nat} (hk : k < av.length) : encA (av.take (k + 1)) = encA (av.take k) ++ enc1 av[k] := by
  unfold encA; rw [List.take_add_one, List.flatMap_append, List.getElem?_eq_getElem hk]
  simp
theorem enc1_le {a : AV} (h : enc1Ok a = true) : (enc1 a).length ≤ 257 := by
  cases a with
  | num n => simp [enc1, be8_length]
  | txt b =>
    have hb : b.toList.length = b.size := by rw [ByteArray.toList_eq]; rfl
    simp only [enc1Ok, decide_eq_true_eq] at h
    simp [enc1, hb]; omega
  | flg t => simp [enc1]
  | oth v => simp [enc1]
theorem encA_le : ∀ {av : List AV}, encOk av = true → (encA av).length ≤ av.length * 257
  | [], _ => by simp [encA]
  | a :: r, h => by
    have h1 : enc1Ok a = true ∧ encOk r = true := by simpa [encOk] using h
    have := enc1_le h1.1; have := encA_le h1.2
    simp only [encA, List.flatMap_cons, List.length_append, List.length_cons, Nat.add_mul, Nat.one_mul] at *
    omega
theorem GrowA.push {v : Value} {av : List AV} {a : AV} {Lv : Own} (h : Grow 20 1 v (av.length + 1) (av.map AV.v ++ [a.v]) Lv) : GrowA v (av ++ [a]) Lv := by
  unfold GrowA; rw [List.length_append, List.map_append]; exact h
theorem strOf_size (bs : List UInt8) : (strOf bs).size = bs.length := by
  have := size_toList (strOf bs); rw [strOf_toList] at this; exact this.symm
theorem toList_inj {a b : ByteArray} (h : a.toList = b.toList) : a = b := by
  rw [ByteArray.toList_eq, ByteArray.toList_eq] at h
  cases a; cases b
  congr 1
  exact Array.toList_inj.1 h
theorem good_encOk {m : Nat} {av : List AV} (h : ∀ a ∈ av, a.good m false) (hm : m ≤ 255) : encOk av = true := by
  unfold encOk; rw [List.all_eq_true]; intro a ha; have := h a ha
  cases a <;> simp [enc1Ok, AV.good] at *
  omega
theorem enc1_ne {m : Nat} {a : AV} (ha : a.good m false) : enc1 a ≠ [] := by
  cases a with
  | oth v => exact absurd ha.1 (by decide)
  | _ => simp [enc1]
end Go.Proofs.YtadgbifmiooikaaX
namespace Go.Proofs.YtadgbifmiooikaaX
set_option linter.unusedVariables false
open Go
def nstep (x : Int) (c : UInt8) : Int := bitop .or .u64 (IntKind.u64.wrap (x * 2 ^ 8)) (IntKind.u64.wrap (c.toNat : Int))
def num64 (bs : List UInt8) : Int := IntKind.i64.wrap (bs.foldl nstep 0)
def dec1 (b : List UInt8) : Option (AV × Nat) :=
  if bat b 0 = 116 ∨ bat b 0 = 102 then some (.flg (decide (bat b 0 = 116)), 1)
  else if bat b 0 = 105 ∧ 8 < b.length then some (.num (num64 ((b.drop 1).take 8)), 9)
  else if bat b 0 = 115 ∧ 1 < b.length ∧ 2 + bat b 1 ≤ b.length then some (.txt (strOf ((b.drop 2).take (bat b 1).toNat)), 2 + (bat b 1).toNat)
  else none
theorem dec1_flg {b : List UInt8} (h : bat b 0 = 116 ∨ bat b 0 = 102) : dec1 b = some (.flg (decide (bat b 0 = 116)), 1) := by unfold dec1; rw [if_pos h]
theorem dec1_num {b : List UInt8} (h0 : ¬ (bat b 0 = 116 ∨ bat b 0 = 102)) (h : bat b 0 = 105 ∧ 8 < b.length) : dec1 b = some (.num (num64 ((b.drop 1).take 8)), 9) := by unfold dec1; rw [if_neg h0, if_pos h]
theorem dec1_txt {b : List UInt8} (h0 : ¬ (bat b 0 = 116 ∨ bat b 0 = 102)) (h1 : ¬ (bat b 0 = 105 ∧ 8 < b.length)) (h : bat b 0 = 115 ∧ 1 < b.length ∧ 2 + bat b 1 ≤ b.length) :
    dec1 b = some (.txt (strOf ((b.drop 2).take (bat b 1).toNat)), 2 + (bat b 1).toNat) := by unfold dec1; rw [if_neg h0, if_neg h1, if_pos h]
theorem dec1_no {b : List UInt8} (h0 : ¬ (bat b 0 = 116 ∨ bat b 0 = 102)) (h1 : ¬ (bat b 0 = 105 ∧ 8 < b.length)) (h : ¬ (bat b 0 = 115 ∧ 1 < b.length ∧ 2 + bat b 1 ≤ b.length)) : dec1 b = none := by unfold dec1; rw [if_neg h0, if_neg h1, if_neg h]
theorem dec1_pos {b : List UInt8} {a : AV} {k : Nat} (h : dec1 b = some (a, k)) : 1 ≤ k := by
  unfold dec1 at h
  split at h
  · cases h; exact Nat.le_refl _
  · split at h
    · cases h; decide
    · split at h
      · cases h; omega
      · cases h
theorem dec1_le {b : List UInt8} (hb : 0 < b.length) {a : AV} {k : Nat} (h : dec1 b = some (a, k)) : k ≤ b.length := by
  unfold dec1 at h; have := bat_lt b 1
  split at h
  · cases h; exact hb
  · split at h
    · cases h; omega
    · split at h
      · cases h; omega
      · cases h
theorem fold_take {xs : List UInt8} {k : Nat} (hk : k < xs.length) : (xs.take (k + 1)).foldl nstep 0 = bitop .or .u64 (IntKind.u64.wrap ((xs.take k).foldl nstep 0 * 2 ^ 8)) (IntKind.u64.wrap (bat xs (k : Int))) := by
  rw [List.take_add_one, List.getElem?_eq_getElem hk, Option.toList_some, List.foldl_append]
  simp only [List.foldl_cons, List.foldl_nil, nstep]
  congr 2
  unfold bat
  simp [hk]
def decF : Nat → List UInt8 → Option (List AV)
  | 0, b => if b = [] then some [] else none
  | n + 1, b => if b = [] then some [] else match dec1 b with
    | none => none
    | some (a, k) => (decF n (b.drop k)).map (a :: ·)
theorem decF_enough : ∀ (n m : Nat) (b : List UInt8), b.length ≤ n → b.length ≤ m → decF n b = decF m b
  | 0, 0, b, h, h' => rfl
  | 0, m + 1, b, h, h' => by
    have : b = [] := List.eq_nil_of_length_eq_zero (by omega); subst this
    rfl
  | n + 1, 0, b, h, h' => by
    have : b = [] := List.eq_nil_of_length_eq_zero (by omega); subst this
    rfl
  | n + 1, m + 1, b, h, h' => by
    unfold decF
    by_cases hb : b = []
    · rw [if_pos hb, if_pos hb]
    · rw [if_neg hb, if_neg hb]
      cases hd : dec1 b with
      | none => rfl
      | some x =>
        obtain ⟨a, k⟩ := x; have hk := dec1_pos hd; have hpos : 0 < b.length := List.length_pos_iff.2 hb
        simp only []
        rw [decF_enough n m (b.drop k) (by rw [List.length_drop]; omega) (by rw [List.length_drop]; omega)]
def decA (b : List UInt8) : Option (List AV) := decF b.length b
theorem decA_nil : decA [] = some [] := rfl
theorem decA_step {b : List UInt8} (hb : 0 < b.length) : decA b = match dec1 b with
    | none => none
    | some (a, k) => (decA (b.drop k)).map (a :: ·) := by
  unfold decA; obtain ⟨n, hn⟩ : ∃ n, b.length = n + 1 := ⟨b.length - 1, by omega⟩; rw [hn]; rw [decF]; rw [if_neg (fun e => by rw [e] at hb; exact absurd hb (by decide))]
  cases hd : dec1 b with
  | none => rfl
  | some x =>
    obtain ⟨a, k⟩ := x; have hk := dec1_pos hd
    simp only []
    rw [decF_enough n (b.drop k).length (b.drop k) (by rw [List.length_drop]; omega) (Nat.le_refl _)]
theorem decA_some {b : List UInt8} (hb : 0 < b.length) {a : AV} {k : Nat} (hd : dec1 b = some (a, k)) : decA b = (decA (b.drop k)).map (a :: ·) := by rw [decA_step hb, hd]
theorem decA_none {b : List UInt8} (hb : 0 < b.length) (hd : dec1 b = none) : decA b = none := by rw [decA_step hb, hd]
theorem wrap64_ok (n : Int) : i64ok (IntKind.i64.wrap n) := by
  rw [IntKind.wrap_i64]; unfold i64ok; omega
theorem dec1_good {b : List UInt8} {a : AV} {k : Nat} (h : dec1 b = some (a, k)) : a.good 255 false := by
  unfold dec1 at h
  split at h
  · cases h; trivial
  · split at h
    · cases h; exact wrap64_ok _
    · split at h
      · cases h
        show (strOf _).size ≤ 255
        rw [strOf_size, List.length_take]; have := bat_lt b 1; omega
      · cases h
theorem nstep_eq {x : Int} (c : UInt8) (hx : 0 ≤ x) : nstep x c = (x * 256) % 18446744073709551616 + c.toNat := by
  unfold nstep; have hc := c.toNat_lt; rw [IntKind.wrap_u64, IntKind.wrap_u64]
  obtain ⟨A, hA⟩ : ∃ A : Nat, (x * 2 ^ 8) % 18446744073709551616 = ((2 ^ 8 * A : Nat) : Int) := by
    refine ⟨((x * 2 ^ 8) % 18446744073709551616 / 256).toNat, ?_⟩; rw [Int.natCast_mul, show (((2 ^ 8 : Nat)) : Int) = 256 from rfl]; omega
  have hA2 : 2 ^ 8 * A < 18446744073709551616 := by omega
  have hB : ((c.toNat : Int) % 18446744073709551616) = ((c.toNat : Nat) : Int) := by omega
  have e8 : x * 2 ^ 8 = x * 256 := by omega
  rw [hA, hB, ← e8, hA]
  show IntKind.u64.wrap (((BitVec.ofInt 64 ((2 ^ 8 * A : Nat) : Int)) ||| (BitVec.ofInt 64 ((c.toNat : Nat) : Int))).toNat : Int) = _
  rw [BitVec.ofInt_natCast, BitVec.ofInt_natCast, BitVec.toNat_or, BitVec.toNat_ofNat, BitVec.toNat_ofNat, Nat.mod_eq_of_lt (by omega), Nat.mod_eq_of_lt (by omega), ← Nat.two_pow_add_eq_or_of_lt (by omega) A, IntKind.wrap_u64]; omega
theorem num64_be8 {n : Int} (h : i64ok n) : num64 (be8 n) = n := by
  unfold num64 be8; unfold i64ok at h
  have fd : ∀ (x : Int) (n : Nat), x.fdiv (2 ^ n) = x / 2 ^ n := fun x n => Int.fdiv_eq_ediv_of_nonneg _ (Int.pow_nonneg (by decide))
  simp only [List.range_succ, List.range_zero, List.nil_append, List.map_cons, List.map_nil, List.cons_append, List.foldl_cons, List.foldl_nil, fd, IntKind.wrap_u64]
  simp only [Nat.reduceSub, Nat.reduceMul, Int.reducePow]
  obtain ⟨U, hU⟩ : ∃ U, n % 18446744073709551616 = U := ⟨_, rfl⟩; rw [hU]
  have st : ∀ (x D : Int), 0 ≤ x → nstep x (u8 D) = (x * 256) % 18446744073709551616 + D % 256 := fun x D hx => by rw [nstep_eq _ hx, u8_toNat]
  have k1 : nstep 0 (u8 (U / 72057594037927936)) = U / 72057594037927936 := by rw [st _ _ (by omega)]; omega
  rw [k1]
  have k2 : nstep (U / 72057594037927936) (u8 (U / 281474976710656)) = U / 281474976710656 := by rw [st _ _ (by omega)]; omega
  rw [k2]
  have k3 : nstep (U / 281474976710656) (u8 (U / 1099511627776)) = U / 1099511627776 := by rw [st _ _ (by omega)]; omega
  rw [k3]
  have k4 : nstep (U / 1099511627776) (u8 (U / 4294967296)) = U / 4294967296 := by rw [st _ _ (by omega)]; omega
  rw [k4]
  have k5 : nstep (U / 4294967296) (u8 (U / 16777216)) = U / 16777216 := by rw [st _ _ (by omega)]; omega
  rw [k5]
  have k6 : nstep (U / 16777216) (u8 (U / 65536)) = U / 65536 := by rw [st _ _ (by omega)]; omega
  rw [k6]
  have k7 : nstep (U / 65536) (u8 (U / 256)) = U / 256 := by rw [st _ _ (by omega)]; omega
  rw [k7]
  have k8 : nstep (U / 256) (u8 (U / 1)) = U := by rw [st _ _ (by omega)]; omega
  rw [k8, IntKind.wrap_i64]; omega
theorem strOf_toList' (b : ByteArray) : strOf b.toList = b := toList_inj (strOf_toList _)
theorem dec1_enc1 {m : Nat} (hm : m ≤ 255) {a : AV} (ha : a.good m false) (r : List UInt8) : dec1 (enc1 a ++ r) = some (a, (enc1 a).length) := by
  cases a with
  | num n =>
    have h0 : bat (enc1 (.num n) ++ r) 0 = 105 := rfl
    have hl : (enc1 (.num n) ++ r).length = 9 + r.length := by simp [enc1, be8_length]; omega
    rw [dec1_num (by rw [h0]; omega) ⟨h0, by omega⟩]
    have e : ((enc1 (.num n) ++ r).drop 1).take 8 = be8 n := by
      show (be8 n ++ r).take 8 = be8 n
      rw [List.take_append_of_le_length (by rw [be8_length]; omega), List.take_of_length_le (by rw [be8_length]; omega)]
    rw [e, num64_be8 ha]
    simp [enc1, be8_length]
  | txt s =>
    have hs : s.size ≤ m := ha; have h0 : bat (enc1 (.txt s) ++ r) 0 = 115 := rfl
    have h1 : bat (enc1 (.txt s) ++ r) 1 = s.size := by
      show ((u8 (s.size : Int)).toNat : Int) = _
      rw [u8_toNat]; omega
    have hl : (enc1 (.txt s) ++ r).length = 2 + s.size + r.length := by simp [enc1, size_toList]; omega
    rw [dec1_txt (by rw [h0]; omega) (by rw [h0]; omega) ⟨h0, by omega, by omega⟩, h1]
    have e : ((enc1 (.txt s) ++ r).drop 2).take ((s.size : Int)).toNat = s.toList := by
      show (s.toList ++ r).take s.size = s.toList
      rw [← size_toList, List.take_left]
    rw [e, strOf_toList']
    simp [enc1, size_toList]; omega
  | flg t =>
    cases t
    · have h0 : bat (enc1 (.flg false) ++ r) 0 = 102 := rfl; rw [dec1_flg (.inr h0), h0]
      rfl
    · have h0 : bat (enc1 (.flg true) ++ r) 0 = 116 := rfl; rw [dec1_flg (.inl h0), h0]
      rfl
  | oth v => exact absurd ha.1 (by decide)
theorem decA_encA {m : Nat} (hm : m ≤ 255) : ∀ {av : List AV}, (∀ x ∈ av, x.good m false) → decA (encA av) = some av
  | [], _ => rfl
  | a :: r, h => by
    have ha := h a (List.mem_cons_self ..); have hne := enc1_ne ha; have e : encA (a :: r) = enc1 a ++ encA r := rfl
    have hpos : 0 < (encA (a :: r)).length := by
      rw [e, List.length_append]; have := List.length_pos_iff.2 hne; omega
    rw [decA_some hpos (by rw [e]; exact dec1_enc1 hm ha _), e, List.drop_left, decA_encA hm (fun x hx => h x (List.mem_cons_of_mem _ hx))]
    rfl
end Go.Proofs.YtadgbifmiooikaaX
namespace Go.Proofs.YtadgbifmiooikaaX
set_option linter.unusedVariables false
set_option linter.unusedSimpArgs false
open Go Go.RowKit Go.Proofs
set_option maxRecDepth 100000 in
set_option maxHeartbeats 1000000 in
theorem enc_spec {w0 w : World} {I : Imm} {L : Own} (hst : St w0 w I L) {v : Value} {av : List AV} {m : Nat} {o : Bool} (hv : RdA I v av) (hgood : ∀ a ∈ av, a.good m o) (hlen : av.length ≤ 100000000000) :
    Calls Try.prog 33 #[v] w fun r w' => ∃ I' v', Imm.le I I' ∧ r = .returned (.tuple #[v', .int .i64 (if encOk av then 0 else 1)]) ∧ St w0 w' I' L ∧ RdB I' v' (if encOk av then encA av else []) := by
  refine enter Try.func33 rfl (N := 65) rfl rfl ?_
  simp only [List.zipIdx_cons, List.zipIdx_nil, List.map_cons, List.map_nil, Nat.zero_add, Nat.reduceAdd]
  have hle := Imm.le.refl I; refine CW.seq ?_; refine CW.region ?_; refine RW.op1 rfl (runs_assign rfl) ?_; refine RW.op1 rfl (runs_assign rfl) ?_; refine RW.done ?_; refine AQ.next ?_; refine CW.seq ?_; refine CW.region ?_; refine RW.op1 rfl (runs_assign rfl) ?_; refine RW.done ?_; refine AQ.next ?_; refine CW.seq ?_; refine CW.seq ?_; refine CW.region ?_; refine RW.op1 rfl (runs_move rfl) ?_
  refine RW.op1 rfl (RdL.len Try.underlying77 rfl (by assumption)) ?_
  refine RW.op1 rfl (runs_move rfl) ?_; refine RW.done ?_; refine AQ.next ?_; refine CW.block ?_; refine CW.loop (Nat × Value × Own × Imm) (fun x w => I.le x.2.2.2 ∧ St w0 w x.2.2.2 (x.2.2.1 ++ L) ∧ GrowB 5 x.2.1 (encA (av.take x.1)) x.2.2.1 ∧ encOk (av.take x.1) = true ∧ x.1 ≤ av.length) (fun x => [(12, v), (13, .int .i64 (av.length : Int)), (14, .int .i64 (x.1 : Int)), (4, x.2.1)]) (fun x => av.length - x.1) ⟨(0, .slice none 0 0, [], I), ⟨Imm.le.refl _, hst, by rw [List.take_zero]; exact GrowB.nil _, rfl, Nat.zero_le _⟩, ⟨rfl, rfl, rfl, rfl, trivial⟩⟩ ?_; rintro ⟨k, vo, Lo, I5⟩ w ⟨hle, hstn, hg, hok, hk0⟩; dsimp only at hle hstn hg hok hk0 ⊢; clear hst; have hst := hstn; clear hstn; refine CW.seq ?_; refine CW.region ?_; refine RW.op1 rfl (runs_lss rfl rfl) ?_; refine RW.done ?_; refine AQ.next ?_; refine CW.seq ?_; refine CW.cond rfl (fun hc15 => ?_) (fun hc15 => ?_)
  · have hcb15 := hc15; try simp only [decide_eq_true_eq, decide_eq_false_iff_not] at hc15
    have hk : k < av.length := by omega
    have hga := hgood _ (List.getElem_mem hk); have hvk := RdL.mono hle hv; have hsz := encA_le hok
    have htk : (av.take k).length ≤ 100000000000 := by rw [List.length_take]; omega
    have hat := RdA.at (i := (k : Int)) hvk (by omega) (by omega)
    simp only [Int.toNat_natCast] at hat
    obtain ⟨a, ha⟩ : ∃ a, av[k] = a := ⟨_, rfl⟩; have e1 : av[k] = a := ha; rw [ha] at hat hga; have hisI := AV.isI hga; refine CW.skip ?_; refine AQ.next ?_; refine CW.seq ?_; refine CW.block ?_; refine CW.seq ?_; refine CW.region ?_; refine RW.op1 rfl (RdL.indexAddr Try.underlying77 ti20 (by decide) rfl rfl hvk (by omega)) ?_; refine RW.op1 rfl (runs_load1 sc20 rfl (hst.cell_imm hat)) ?_; refine RW.op1 rfl (runs_assign rfl) ?_; refine RW.done ?_; refine AQ.next ?_; refine CW.seq ?_; refine CW.region ?_; refine RW.op1 rfl (runs_move rfl) ?_; refine RW.done ?_; refine AQ.next ?_; refine CW.block ?_; refine CW.seq ?_; refine CW.region ?_; refine RW.op1 rfl (runs_assertOk con3 ti3 rfl (AV.isI hga)) ?_; refine RW.op1 rfl (runs_extract rfl rfl) ?_; refine RW.op1 rfl (runs_extract rfl rfl) ?_; refine RW.done ?_; refine AQ.next ?_; refine CW.cond rfl (fun hc20 => ?_) (fun hc20 => ?_)
    · have hcb20 := hc20; try simp only [decide_eq_true_eq, decide_eq_false_iff_not] at hc20
      obtain ⟨n, rfl⟩ := AV.asB_num hga hcb20; refine CW.seq ?_; refine CW.region ?_; refine RW.op1 rfl (runs_assign rfl) ?_; refine RW.done ?_; refine AQ.next ?_; refine CW.seq ?_; refine CW.region ?_; refine RW.op1 rfl (runs_move rfl) ?_; refine RW.opE rfl (runs_litB (bs := [105]) rfl Try.underlying60 ti5 (by decide) rfl rfl rfl hst) ?_; rintro u1 w ⟨I1, hI1, hstn, h1⟩; clear hst; have hst := hstn; clear hstn; replace hle := hle.trans hI1; refine RW.opE rfl (runs_appendB Try.underlying60 ti5 rfl rfl hst (by assumption) (by assumption) (by (try simp) <;> omega)) ?_; rintro u2 w ⟨Lv2, hstn, hg2⟩; clear hst; have hst := hstn; clear hstn; refine RW.op1 rfl (runs_assign rfl) ?_; refine RW.done ?_; refine AQ.next ?_; refine CW.seq ?_; refine CW.region ?_; refine RW.op1 rfl (runs_move rfl) ?_; refine RW.done ?_; refine AQ.next ?_; refine CW.block ?_; refine CW.loop (Nat × Value × Own × Imm) (fun x w => I.le x.2.2.2 ∧ St w0 w x.2.2.2 (x.2.2.1 ++ L) ∧ GrowB 5 x.2.1 (encA (av.take k) ++ [105] ++ (be8 n).take x.1) x.2.2.1 ∧ x.1 ≤ 8) (fun x => [(12, v), (13, .int .i64 (av.length : Int)), (14, .int .i64 (k : Int)), (7, .int .i64 n), (4, x.2.1), (25, .int .i64 (x.1 : Int))]) (fun x => 8 - x.1) ⟨(0, _, _, _), ⟨hle, hst, by rw [List.take_zero, List.append_nil]; assumption, by omega⟩, ⟨rfl, rfl, rfl, rfl, rfl, rfl, trivial⟩⟩ ?_; rintro ⟨j, vi, Li, I6⟩ w ⟨hle, hstn, hg, hj0⟩; dsimp only at hle hstn hg hj0 ⊢; clear hst; have hst := hstn; clear hstn; refine CW.seq ?_; refine CW.region ?_
      refine RW.op1 rfl (runs_lss rfl rfl) ?_; refine RW.done ?_; refine AQ.next ?_; refine CW.seq ?_; refine CW.cond rfl (fun hc26 => ?_) (fun hc26 => ?_)
      · have hcb26 := hc26; try simp only [decide_eq_true_eq, decide_eq_false_iff_not] at hc26
        have hj : j < 8 := by omega
        have hbl : ((be8 n).take j).length ≤ 8 := by rw [List.length_take]; omega
        refine CW.skip ?_; refine AQ.next ?_; refine CW.seq ?_; refine CW.block ?_; refine CW.seq ?_; refine CW.region ?_; refine RW.op1 rfl (runs_move rfl) ?_; refine RW.op1 rfl (runs_assign rfl) ?_; refine RW.done ?_; refine AQ.next ?_; refine CW.region ?_; refine RW.op1 rfl (runs_move rfl) ?_; refine RW.op1 rfl (runs_move rfl) ?_; refine RW.op1 rfl (runs_convI (by rw [Try.underlying3]; rfl) Try.underlying113 rfl) ?_; refine RW.op1 rfl (runs_move rfl) ?_; refine RW.op1 rfl (runs_sub rfl rfl (by omega)) ?_; refine RW.op1 rfl (runs_mul rfl rfl (by omega)) ?_
        have e33 : (8 : Int) * (7 - (j : Int)) = ((8 * (7 - j) : Nat) : Int) := by omega
        rw [e33]; refine RW.op1 rfl (runs_shr (n := 8 * (7 - j)) rfl rfl (by show 8 * (7 - j) ≤ 64; omega)) ?_; refine RW.op1 rfl (runs_convB (by rw [Try.underlying113]; rfl) Try.underlying5 rfl) ?_; refine RW.opE rfl (runs_litB (bs := [_]) rfl Try.underlying60 ti5 (by decide) rfl rfl rfl hst) ?_; rintro u3 w ⟨I3, hI3, hstn, h3⟩; clear hst; have hst := hstn; clear hstn; replace hle := hle.trans hI3; refine RW.opE rfl (runs_appendB Try.underlying60 ti5 rfl rfl hst (by assumption) (by assumption) (by (try simp) <;> omega)) ?_; rintro u4 w ⟨Lv4, hstn, hg4⟩; clear hst; have hst := hstn; clear hstn; refine RW.op1 rfl (runs_assign rfl) ?_; refine RW.done ?_; refine AQ.block_normal ?_; refine AQ.next ?_; refine CW.region ?_; refine RW.op1 rfl (runs_add rfl rfl (by omega)) ?_; refine RW.op1 rfl (runs_move rfl) ?_; refine RW.done ?_; exact AQ.again (x := (j, vi, Li, I6)) (j + 1, _, _, _) ⟨hle, hst, by rw [be8_take n hj, ← List.append_assoc]; assumption, by omega⟩ ⟨rfl, rfl, rfl, rfl, rfl, rfl, trivial⟩ (by dsimp only; omega)
      · have hcb26 := hc26; try simp only [decide_eq_true_eq, decide_eq_false_iff_not] at hc26
        skip
        refine CW.exit ?_; refine AQ.past_exit ?_; refine AQ.past_exit ?_; refine AQ.block_hit ?_; refine AQ.block_normal ?_; refine AQ.block_normal ?_; refine AQ.next ?_; refine CW.region ?_; refine RW.op1 rfl (runs_add rfl rfl (by omega)) ?_; refine RW.op1 rfl (runs_move rfl) ?_; refine RW.done ?_; have hb8 : (be8 n).take j = be8 n := List.take_of_length_le (by rw [be8_length]; omega); rw [hb8] at hg; exact AQ.again (x := (k, vo, Lo, I5)) (k + 1, _, _, _) ⟨hle, hst, by rw [encA_take hk, e1]; simpa [enc1] using hg, encOk_take hk hok (by rw [e1]; rfl), by omega⟩ ⟨rfl, rfl, rfl, rfl, trivial⟩ (by dsimp only; omega)
    · have hcb20 := hc20; try simp only [decide_eq_true_eq, decide_eq_false_iff_not] at hc20
      skip
      refine CW.seq ?_; refine CW.region ?_; refine RW.op1 rfl (runs_assertOk con9 ti9 rfl (by first | rfl | assumption)) ?_; refine RW.op1 rfl (runs_extract rfl rfl) ?_; refine RW.op1 rfl (runs_extract rfl rfl) ?_; refine RW.done ?_; refine AQ.next ?_; refine CW.cond rfl (fun hc40 => ?_) (fun hc40 => ?_)
      · have hcb40 := hc40; try simp only [decide_eq_true_eq, decide_eq_false_iff_not] at hc40
        obtain ⟨b, rfl⟩ := AV.asB_txt hga hcb40; refine CW.seq ?_; refine CW.region ?_; refine RW.op1 rfl (runs_assign rfl) ?_; refine RW.done ?_; refine AQ.next ?_; refine CW.seq ?_; refine CW.seq ?_; refine CW.region ?_; refine RW.op1 rfl (runs_move rfl) ?_; refine RW.op1 rfl (runs_lenS Try.underlying9 rfl) ?_; refine RW.op1 rfl (runs_gtr rfl rfl) ?_; refine RW.done ?_; refine AQ.next ?_; refine CW.cond rfl (fun hc44 => ?_) (fun hc44 => ?_)
        · have hcb44 := hc44; try simp only [decide_eq_true_eq, decide_eq_false_iff_not] at hc44
          skip
          refine CW.seq ?_; refine CW.region ?_; refine RW.op1 rfl (runs_assign rfl) ?_; refine RW.op1 rfl (runs_assign rfl) ?_; refine RW.done ?_; refine AQ.next ?_; refine CW.ret ?_; refine AQ.past_ret ?_; refine AQ.block_ret ?_; refine AQ.block_ret ?_; refine AQ.past_ret ?_; refine AQ.past_ret ?_; refine AQ.block_ret ?_; refine AQ.past_ret ?_; refine AQ.ret2 rfl rfl rfl ?_; rw [encOk_no hk (by rw [e1]; simp [enc1Ok]; omega)]; exact ⟨_, _, hle, rfl, hst.sub (List.sublist_append_right _ _), RdL.nil 1⟩
        · have hcb44 := hc44; try simp only [decide_eq_true_eq, decide_eq_false_iff_not] at hc44
          have hbl := size_toList b; refine CW.skip ?_; refine AQ.next ?_; refine CW.region ?_; refine RW.op1 rfl (runs_move rfl) ?_; refine RW.op1 rfl (runs_move rfl) ?_; refine RW.op1 rfl (runs_lenS Try.underlying9 rfl) ?_; refine RW.op1 rfl (runs_convB (by rw [Try.underlying3]; rfl) Try.underlying5 rfl) ?_; refine RW.opE rfl (runs_litB (bs := [115, _]) rfl Try.underlying60 ti5 (by decide) rfl rfl rfl hst) ?_; rintro u5 w ⟨I5, hI5, hstn, h5⟩; clear hst; have hst := hstn; clear hstn; replace hle := hle.trans hI5; refine RW.opE rfl (runs_appendB Try.underlying60 ti5 rfl rfl hst (by assumption) (by assumption) (by (try simp) <;> omega)) ?_; rintro u6 w ⟨Lv6, hstn, hg6⟩; clear hst; have hst := hstn; clear hstn; refine RW.op1 rfl (runs_move rfl) ?_; refine RW.opE rfl (runs_appendS Try.underlying60 ti5 Try.underlying9 rfl rfl hst (by assumption) (by (try simp) <;> omega)) ?_; rintro u7 w ⟨Lv7, hstn, hg7⟩; clear hst; have hst := hstn; clear hstn; refine RW.op1 rfl (runs_assign rfl) ?_; refine RW.done ?_; refine AQ.block_normal ?_; refine AQ.block_normal ?_; refine AQ.next ?_; refine CW.region ?_; refine RW.op1 rfl (runs_add rfl rfl (by omega)) ?_; refine RW.op1 rfl (runs_move rfl) ?_; refine RW.done ?_
          skip
          exact AQ.again (x := (k, vo, Lo, I5)) (k + 1, _, _, _) ⟨hle, hst, by rw [encA_take hk, e1]; simpa [enc1] using (by assumption : GrowB 5 _ (encA (av.take k) ++ [115, u8 b.size] ++ b.toList) _), encOk_take hk hok (by rw [e1]; simp [enc1Ok]; omega), by omega⟩ ⟨rfl, rfl, rfl, rfl, trivial⟩ (by dsimp only; omega)
      · have hcb40 := hc40; try simp only [decide_eq_true_eq, decide_eq_false_iff_not] at hc40
        skip
        refine CW.seq ?_; refine CW.region ?_; refine RW.op1 rfl (runs_assertOk con4 ti4 rfl (by first | rfl | assumption)) ?_; refine RW.op1 rfl (runs_extract rfl rfl) ?_; refine RW.op1 rfl (runs_extract rfl rfl) ?_; refine RW.done ?_; refine AQ.next ?_; refine CW.cond rfl (fun hc54 => ?_) (fun hc54 => ?_)
        · have hcb54 := hc54; try simp only [decide_eq_true_eq, decide_eq_false_iff_not] at hc54
          obtain ⟨b, rfl⟩ := AV.asB_flg hga hcb54; refine CW.seq ?_; refine CW.region ?_; refine RW.op1 rfl (runs_assign rfl) ?_; refine RW.done ?_; refine AQ.next ?_; refine CW.seq ?_; refine CW.region ?_; refine RW.op1 rfl (runs_move rfl) ?_; refine RW.done ?_; refine AQ.next ?_; refine CW.cond rfl (fun hc56 => ?_) (fun hc56 => ?_)
          · have hcb56 := hc56; try simp only [decide_eq_true_eq, decide_eq_false_iff_not] at hc56
            refine CW.region ?_; refine RW.op1 rfl (runs_move rfl) ?_; refine RW.opE rfl (runs_litB (bs := [116]) rfl Try.underlying60 ti5 (by decide) rfl rfl rfl hst) ?_; rintro u8 w ⟨I8, hI8, hstn, h8⟩; clear hst; have hst := hstn; clear hstn; replace hle := hle.trans hI8; refine RW.opE rfl (runs_appendB Try.underlying60 ti5 rfl rfl hst (by assumption) (by assumption) (by (try simp) <;> omega)) ?_; rintro u9 w ⟨Lv9, hstn, hg9⟩; clear hst; have hst := hstn; clear hstn; refine RW.op1 rfl (runs_assign rfl) ?_; refine RW.done ?_; refine AQ.block_normal ?_; refine AQ.block_normal ?_; refine AQ.next ?_; refine CW.region ?_; refine RW.op1 rfl (runs_add rfl rfl (by omega)) ?_; refine RW.op1 rfl (runs_move rfl) ?_; refine RW.done ?_; subst hcb56; exact AQ.again (x := (k, vo, Lo, I5)) (k + 1, _, _, _) ⟨hle, hst, by rw [encA_take hk, e1]; simpa [enc1] using (by assumption : GrowB 5 _ (encA (av.take k) ++ [116]) _), encOk_take hk hok (by rw [e1]; rfl), by omega⟩ ⟨rfl, rfl, rfl, rfl, trivial⟩ (by dsimp only; omega)
          · have hcb56 := hc56; try simp only [decide_eq_true_eq, decide_eq_false_iff_not] at hc56
            refine CW.region ?_; refine RW.op1 rfl (runs_move rfl) ?_; refine RW.opE rfl (runs_litB (bs := [102]) rfl Try.underlying60 ti5 (by decide) rfl rfl rfl hst) ?_; rintro u10 w ⟨I10, hI10, hstn, h10⟩; clear hst; have hst := hstn; clear hstn; replace hle := hle.trans hI10; refine RW.opE rfl (runs_appendB Try.underlying60 ti5 rfl rfl hst (by assumption) (by assumption) (by (try simp) <;> omega)) ?_; rintro u11 w ⟨Lv11, hstn, hg11⟩; clear hst; have hst := hstn; clear hstn; refine RW.op1 rfl (runs_assign rfl) ?_; refine RW.done ?_; refine AQ.block_normal ?_; refine AQ.block_normal ?_; refine AQ.next ?_; refine CW.region ?_; refine RW.op1 rfl (runs_add rfl rfl (by omega)) ?_; refine RW.op1 rfl (runs_move rfl) ?_; refine RW.done ?_; subst hcb56; exact AQ.again (x := (k, vo, Lo, I5)) (k + 1, _, _, _) ⟨hle, hst, by rw [encA_take hk, e1]; simpa [enc1] using (by assumption : GrowB 5 _ (encA (av.take k) ++ [102]) _), encOk_take hk hok (by rw [e1]; rfl), by omega⟩ ⟨rfl, rfl, rfl, rfl, trivial⟩ (by dsimp only; omega)
        · have hcb54 := hc54; try simp only [decide_eq_true_eq, decide_eq_false_iff_not] at hc54
          obtain ⟨u, rfl⟩ := AV.asB_oth hcb20 hcb40 hcb54; refine CW.seq ?_; refine CW.region ?_; refine RW.op1 rfl (runs_assign rfl) ?_; refine RW.done ?_; refine AQ.next ?_; refine CW.seq ?_; refine CW.region ?_; refine RW.op1 rfl (runs_assign rfl) ?_; refine RW.op1 rfl (runs_assign rfl) ?_; refine RW.done ?_; refine AQ.next ?_; refine CW.ret ?_; refine AQ.block_ret ?_; refine AQ.block_ret ?_; refine AQ.past_ret ?_; refine AQ.past_ret ?_; refine AQ.block_ret ?_; refine AQ.past_ret ?_; refine AQ.ret2 rfl rfl rfl ?_; rw [encOk_no hk (by rw [e1]; rfl)]; exact ⟨_, _, hle, rfl, hst.sub (List.sublist_append_right _ _), RdL.nil 1⟩
  · have hcb15 := hc15; try simp only [decide_eq_true_eq, decide_eq_false_iff_not] at hc15
    skip
    refine CW.exit ?_; refine AQ.past_exit ?_; refine AQ.past_exit ?_; refine AQ.block_hit ?_; refine AQ.next ?_; refine CW.seq ?_; refine CW.region ?_; refine RW.op1 rfl (runs_move rfl) ?_; refine RW.op1 rfl (runs_assign rfl) ?_; refine RW.op1 rfl (runs_assign rfl) ?_; refine RW.done ?_; refine AQ.next ?_; refine CW.ret ?_; refine AQ.ret2 rfl rfl rfl ?_; have hkl : av.take k = av := List.take_of_length_le (by omega); rw [hkl] at hok hg; rw [hok]; obtain ⟨I', hI, hst, hr⟩ := GrowB.freeze hg hst; exact ⟨I', _, hle.trans hI, rfl, hst, hr⟩
set_option maxRecDepth 100000 in
set_option maxHeartbeats 1000000 in
theorem one_spec {w0 w : World} {I : Imm} {L : Own} (hst : St w0 w I L) {v : Value} {b : List UInt8} (hv : RdB I v b) (hpos : 0 < b.length) :
    Calls Try.prog 67 #[v] w fun r w' => ∃ v', r = .returned (.tuple #[(match dec1 b with | some (a, _) => a.v | none => .nilIface), v', .bool (dec1 b).isSome]) ∧ St w0 w' I L ∧ RdB I v' (match dec1 b with | some (_, k) => b.drop k | none => []) := by
  have hb0 := bat_lt b 0; have hb1 := bat_lt b 1; refine enter Try.func67 rfl (N := 88) rfl rfl ?_
  simp only [List.zipIdx_cons, List.zipIdx_nil, List.map_cons, List.map_nil, Nat.zero_add, Nat.reduceAdd]
  have hle := Imm.le.refl I; refine CW.seq ?_; refine CW.region ?_; refine RW.op1 rfl (runs_assign rfl) ?_; refine RW.op1 rfl (runs_assign rfl) ?_; refine RW.op1 rfl (runs_assign rfl) ?_; refine RW.done ?_; refine AQ.next ?_; refine CW.seq ?_; refine CW.block ?_; refine CW.seq ?_; refine CW.region ?_; refine RW.op1 rfl (runs_move rfl) ?_
  refine RW.op1 rfl (RdL.indexAddr Try.underlying60 ti5 (by decide) rfl rfl (by assumption) (by omega)) ?_
  refine RW.op1 rfl (runs_load1 sc5 rfl (hst.cell_imm (RdB.at (by assumption) (by omega) (by omega)))) ?_
  refine RW.op1 rfl (runs_eqI rfl rfl) ?_; refine RW.op1 rfl (runs_move rfl) ?_; refine RW.split (t := 14) rfl (fun hb14 => ?_) (fun hb14 => ?_)
  · have hb14p := hb14; try simp only [decide_eq_true_eq, decide_eq_false_iff_not] at hb14p
    refine RW.off_guard rfl rfl rfl rfl hb14 ?_; refine RW.off_guard rfl rfl rfl rfl hb14 ?_; refine RW.off_guard rfl rfl rfl rfl hb14 ?_; refine RW.off_guard rfl rfl rfl rfl hb14 ?_; refine RW.op1 rfl (runs_pick_true rfl hb14 rfl) ?_; refine RW.op1 rfl (runs_assign rfl) ?_; refine RW.done ?_; refine AQ.next ?_; refine CW.cond_true rfl ?_; refine CW.seq ?_; refine CW.drawSt hst (.q 0 (.q 1 (.q 2 (.q 3 (.q 4 (.q 5 (.q 6 (.q 7 (.q 8 (.q 9 .nil)))))))))) follows (by kernel_rfl) (fun w hst => ?_); refine DRW.q rfl rfl (fun w' hF => runs_move rfl) ?_
    refine DRW.q rfl rfl (fun w' hF => RdL.indexAddr Try.underlying60 ti5 (by decide) rfl rfl (by assumption) (by omega)) ?_
    refine DRW.q rfl rfl (FSt.load1 sc5 rfl (RdB.at (by assumption) (by omega) (by omega))) ?_
    refine DRW.q rfl rfl (fun w' hF => runs_eqI rfl rfl) ?_; refine DRW.q rfl rfl (fun w' hF => runs_makeIface con4 rfl) ?_; refine DRW.q rfl rfl (fun w' hF => runs_move rfl) ?_; have hp26 := RdB.part hv (lo := (1 : Int).toNat) (hi := b.length) (by omega) (by omega); rw [List.take_of_length_le (by rw [List.length_drop]; omega)] at hp26; refine DRW.q rfl rfl (fun w' hF => RdL.slice_l Try.underlying60 ti5 rfl rfl hv (by omega)) ?_; refine DRW.q rfl rfl (fun w' hF => runs_assign rfl) ?_; refine DRW.q rfl rfl (fun w' hF => runs_assign rfl) ?_; refine DRW.q rfl rfl (fun w' hF => runs_assign rfl) ?_; refine DRW.done ?_; refine AQ.next ?_; refine CW.ret ?_; refine AQ.block_ret ?_; refine AQ.past_ret ?_; refine AQ.retL (rs := [.tmp 2, .tmp 3, .tmp 4]) (vs := [_, _, _]) rfl ⟨rfl, rfl, rfl, trivial⟩ (by simp) ?_; rw [dec1_flg (by omega)]; exact ⟨_, rfl, hst, hp26⟩
  · have hb14p := hb14; try simp only [decide_eq_true_eq, decide_eq_false_iff_not] at hb14p
    refine RW.on_guard rfl rfl rfl rfl hb14 ?_; refine RW.op1 rfl (runs_move rfl) ?_; refine RW.on_guard rfl rfl rfl rfl hb14 ?_
    refine RW.op1 rfl (RdL.indexAddr Try.underlying60 ti5 (by decide) rfl rfl (by assumption) (by omega)) ?_
    refine RW.on_guard rfl rfl rfl rfl hb14 ?_
    refine RW.op1 rfl (runs_load1 sc5 rfl (hst.cell_imm (RdB.at (by assumption) (by omega) (by omega)))) ?_
    refine RW.on_guard rfl rfl rfl rfl hb14 ?_; refine RW.op1 rfl (runs_eqI rfl rfl) ?_; refine RW.op1 rfl (runs_pick_false rfl hb14 rfl) ?_; refine RW.op1 rfl (runs_assign rfl) ?_; refine RW.done ?_; refine AQ.next ?_; refine CW.cond rfl (fun hc9 => ?_) (fun hc9 => ?_)
    · have hcb9 := hc9; try simp only [decide_eq_true_eq, decide_eq_false_iff_not] at hc9
      refine CW.seq ?_; refine CW.drawSt hst (.q 0 (.q 1 (.q 2 (.q 3 (.q 4 (.q 5 (.q 6 (.q 7 (.q 8 (.q 9 .nil)))))))))) follows (by kernel_rfl) (fun w hst => ?_); refine DRW.q rfl rfl (fun w' hF => runs_move rfl) ?_
      refine DRW.q rfl rfl (fun w' hF => RdL.indexAddr Try.underlying60 ti5 (by decide) rfl rfl (by assumption) (by omega)) ?_
      refine DRW.q rfl rfl (FSt.load1 sc5 rfl (RdB.at (by assumption) (by omega) (by omega))) ?_
      refine DRW.q rfl rfl (fun w' hF => runs_eqI rfl rfl) ?_; refine DRW.q rfl rfl (fun w' hF => runs_makeIface con4 rfl) ?_; refine DRW.q rfl rfl (fun w' hF => runs_move rfl) ?_; have hp26 := RdB.part hv (lo := (1 : Int).toNat) (hi := b.length) (by omega) (by omega); rw [List.take_of_length_le (by rw [List.length_drop]; omega)] at hp26; refine DRW.q rfl rfl (fun w' hF => RdL.slice_l Try.underlying60 ti5 rfl rfl hv (by omega)) ?_; refine DRW.q rfl rfl (fun w' hF => runs_assign rfl) ?_; refine DRW.q rfl rfl (fun w' hF => runs_assign rfl) ?_; refine DRW.q rfl rfl (fun w' hF => runs_assign rfl) ?_; refine DRW.done ?_; refine AQ.next ?_; refine CW.ret ?_; refine AQ.block_ret ?_; refine AQ.past_ret ?_; refine AQ.retL (rs := [.tmp 2, .tmp 3, .tmp 4]) (vs := [_, _, _]) rfl ⟨rfl, rfl, rfl, trivial⟩ (by simp) ?_; rw [dec1_flg (by omega)]; exact ⟨_, rfl, hst, hp26⟩
    · have hcb9 := hc9; try simp only [decide_eq_true_eq, decide_eq_false_iff_not] at hc9
      refine CW.seq ?_; refine CW.region ?_; refine RW.op1 rfl (runs_move rfl) ?_
      refine RW.op1 rfl (RdL.indexAddr Try.underlying60 ti5 (by decide) rfl rfl (by assumption) (by omega)) ?_
      refine RW.op1 rfl (runs_load1 sc5 rfl (hst.cell_imm (RdB.at (by assumption) (by omega) (by omega)))) ?_
      refine RW.op1 rfl (runs_eqI rfl rfl) ?_; refine RW.op1 rfl (runs_move rfl) ?_; refine RW.split (t := 32) rfl (fun hb32 => ?_) (fun hb32 => ?_)
      · have hb32p := hb32; try simp only [decide_eq_true_eq, decide_eq_false_iff_not] at hb32p
        refine RW.on_guard rfl rfl rfl rfl hb32 ?_; refine RW.op1 rfl (runs_move rfl) ?_; refine RW.on_guard rfl rfl rfl rfl hb32 ?_
        refine RW.op1 rfl (RdL.len Try.underlying60 rfl (by assumption)) ?_
        refine RW.on_guard rfl rfl rfl rfl hb32 ?_; refine RW.op1 rfl (runs_gtr rfl rfl) ?_; refine RW.op1 rfl (runs_pick_true rfl hb32 rfl) ?_; refine RW.op1 rfl (runs_assign rfl) ?_; refine RW.done ?_; refine AQ.next ?_; refine CW.cond rfl (fun hc27 => ?_) (fun hc27 => ?_)
        · have hcb27 := hc27; try simp only [decide_eq_true_eq, decide_eq_false_iff_not] at hc27
          refine CW.seq ?_; refine CW.region ?_; refine RW.op1 rfl (runs_assign rfl) ?_; refine RW.done ?_; refine AQ.next ?_; refine CW.seq ?_; refine CW.seq ?_; refine CW.region ?_; refine RW.op1 rfl (runs_move rfl) ?_; have hp38 : RdB I (partV v (1 : Int).toNat (9 : Int).toNat 1) ((b.drop 1).take 8) := RdB.part hv (by omega) (by omega)
          have hl8 : ((b.drop 1).take 8).length = 8 := by rw [List.length_take, List.length_drop]; omega
          refine RW.op1 rfl (RdL.slice_lh Try.underlying60 ti5 rfl rfl rfl hv (by omega)) ?_; refine RW.op1 rfl (RdL.len Try.underlying60 rfl hp38) ?_; refine RW.op1 rfl (runs_move rfl) ?_; refine RW.done ?_; refine AQ.next ?_; refine CW.block ?_; refine CW.loop Nat (fun k w => St w0 w I L ∧ k ≤ 8) (fun k => [(0, v), (5, .int .u64 ((((b.drop 1).take 8).take k).foldl nstep 0)), (38, partV v (1 : Int).toNat (9 : Int).toNat 1), (39, .int .i64 (((b.drop 1).take 8).length : Int)), (40, .int .i64 (k : Int))]) (fun k => 8 - k) ⟨0, ⟨hst, by omega⟩, ⟨rfl, rfl, rfl, rfl, rfl, trivial⟩⟩ ?_; rintro k w ⟨hstn, hk⟩; clear hst; have hst := hstn; clear hstn; refine CW.seq ?_; refine CW.region ?_; refine RW.op1 rfl (runs_lss rfl rfl) ?_; refine RW.done ?_; refine AQ.next ?_; refine CW.seq ?_; refine CW.cond rfl (fun hc41 => ?_) (fun hc41 => ?_)
          · have hcb41 := hc41; try simp only [decide_eq_true_eq, decide_eq_false_iff_not] at hc41
            refine CW.skip ?_; refine AQ.next ?_; refine CW.seq ?_; refine CW.block ?_; refine CW.seq ?_; refine CW.region ?_; refine RW.op1 rfl (RdL.indexAddr Try.underlying60 ti5 (by decide) rfl rfl hp38 (by omega)) ?_; refine RW.op1 rfl (runs_load1 sc5 rfl (hst.cell_imm (RdB.at hp38 (by omega) (by omega)))) ?_; refine RW.op1 rfl (runs_assign rfl) ?_; refine RW.done ?_; refine AQ.next ?_; refine CW.region ?_; refine RW.op1 rfl (runs_move rfl) ?_; refine RW.op1 rfl (runs_shl (n := 8) rfl rfl (by decide)) ?_; refine RW.op1 rfl (runs_move rfl) ?_; refine RW.op1 rfl (runs_convI (by rw [Try.underlying5]; rfl) Try.underlying113 rfl) ?_; refine RW.op1 rfl (runs_or rfl rfl) ?_; refine RW.op1 rfl (runs_assign rfl) ?_; refine RW.done ?_; refine AQ.block_normal ?_; refine AQ.next ?_; refine CW.region ?_; refine RW.op1 rfl (runs_add rfl rfl (by omega)) ?_; refine RW.op1 rfl (runs_move rfl) ?_; refine RW.done ?_; exact AQ.again (k + 1) ⟨hst, by omega⟩ ⟨rfl, by rw [fold_take (by omega)]; rfl, rfl, rfl, rfl, trivial⟩ (by omega)
          · have hcb41 := hc41; try simp only [decide_eq_true_eq, decide_eq_false_iff_not] at hc41
            refine CW.exit ?_; refine AQ.past_exit ?_; refine AQ.past_exit ?_; refine AQ.block_hit ?_; refine AQ.next ?_; refine CW.seq ?_; refine CW.drawSt hst (.q 0 (.q 1 (.q 2 (.q 3 (.q 4 (.q 5 (.q 6 (.q 7 .nil)))))))) follows (by kernel_rfl) (fun w hst => ?_); refine DRW.q rfl rfl (fun w' hF => runs_move rfl) ?_; refine DRW.q rfl rfl (fun w' hF => runs_convI (by rw [Try.underlying113]; rfl) Try.underlying3 rfl) ?_; refine DRW.q rfl rfl (fun w' hF => runs_makeIface con3 rfl) ?_; refine DRW.q rfl rfl (fun w' hF => runs_move rfl) ?_; have hp54 := RdB.part hv (lo := (9 : Int).toNat) (hi := b.length) (by omega) (by omega); rw [List.take_of_length_le (by rw [List.length_drop]; omega)] at hp54; refine DRW.q rfl rfl (fun w' hF => RdL.slice_l Try.underlying60 ti5 rfl rfl hv (by omega)) ?_; refine DRW.q rfl rfl (fun w' hF => runs_assign rfl) ?_; refine DRW.q rfl rfl (fun w' hF => runs_assign rfl) ?_; refine DRW.q rfl rfl (fun w' hF => runs_assign rfl) ?_; refine DRW.done ?_; refine AQ.next ?_; refine CW.ret ?_; refine AQ.block_ret ?_; refine AQ.past_ret ?_; refine AQ.retL (rs := [.tmp 2, .tmp 3, .tmp 4]) (vs := [_, _, _]) rfl ⟨rfl, rfl, rfl, trivial⟩ (by simp) ?_; have hk8 : ((b.drop 1).take 8).take k = (b.drop 1).take 8 := List.take_of_length_le (by omega); rw [hk8, dec1_num (by omega) (by omega)]; exact ⟨_, rfl, hst, hp54⟩
        · have hcb27 := hc27; try simp only [decide_eq_true_eq, decide_eq_false_iff_not] at hc27
          refine CW.seq ?_; refine CW.region ?_; refine RW.op1 rfl (runs_move rfl) ?_
          refine RW.op1 rfl (RdL.indexAddr Try.underlying60 ti5 (by decide) rfl rfl (by assumption) (by omega)) ?_
          refine RW.op1 rfl (runs_load1 sc5 rfl (hst.cell_imm (RdB.at (by assumption) (by omega) (by omega)))) ?_
          refine RW.op1 rfl (runs_eqI rfl rfl) ?_; refine RW.op1 rfl (runs_move rfl) ?_; refine RW.split (t := 60) rfl (fun hb60 => ?_) (fun hb60 => ?_)
          · have hb60p := hb60; try simp only [decide_eq_true_eq, decide_eq_false_iff_not] at hb60p
            refine RW.on_guard rfl rfl rfl rfl hb60 ?_; refine RW.op1 rfl (runs_move rfl) ?_; refine RW.on_guard rfl rfl rfl rfl hb60 ?_
            refine RW.op1 rfl (RdL.len Try.underlying60 rfl (by assumption)) ?_
            refine RW.on_guard rfl rfl rfl rfl hb60 ?_; refine RW.op1 rfl (runs_gtr rfl rfl) ?_; refine RW.op1 rfl (runs_pick_true rfl hb60 rfl) ?_; refine RW.op1 rfl (runs_move rfl) ?_; refine RW.split (t := 65) rfl (fun hb65 => ?_) (fun hb65 => ?_)
            · have hb65p := hb65; try simp only [decide_eq_true_eq, decide_eq_false_iff_not] at hb65p
              refine RW.on_guard rfl rfl rfl rfl hb65 ?_; refine RW.op1 rfl (runs_move rfl) ?_; refine RW.on_guard rfl rfl rfl rfl hb65 ?_
              refine RW.op1 rfl (RdL.len Try.underlying60 rfl (by assumption)) ?_
              refine RW.on_guard rfl rfl rfl rfl hb65 ?_; refine RW.op1 rfl (runs_move rfl) ?_; refine RW.on_guard rfl rfl rfl rfl hb65 ?_
              refine RW.op1 rfl (RdL.indexAddr Try.underlying60 ti5 (by decide) rfl rfl (by assumption) (by omega)) ?_
              refine RW.on_guard rfl rfl rfl rfl hb65 ?_
              refine RW.op1 rfl (runs_load1 sc5 rfl (hst.cell_imm (RdB.at (by assumption) (by omega) (by omega)))) ?_
              refine RW.on_guard rfl rfl rfl rfl hb65 ?_; refine RW.op1 rfl (runs_conv64 (by rw [Try.underlying5]; rfl) Try.underlying3 rfl (bat_ok _ _)) ?_; refine RW.on_guard rfl rfl rfl rfl hb65 ?_; refine RW.op1 rfl (runs_add rfl rfl (by omega)) ?_; refine RW.on_guard rfl rfl rfl rfl hb65 ?_; refine RW.op1 rfl (runs_geq rfl rfl) ?_; refine RW.op1 rfl (runs_pick_true rfl hb65 rfl) ?_; refine RW.op1 rfl (runs_assign rfl) ?_; refine RW.done ?_; refine AQ.next ?_; refine CW.cond rfl (fun hc55 => ?_) (fun hc55 => ?_)
              · have hcb55 := hc55; try simp only [decide_eq_true_eq, decide_eq_false_iff_not] at hc55
                refine CW.seq ?_; refine CW.region ?_; refine RW.op1 rfl (runs_move rfl) ?_
                refine RW.op1 rfl (RdL.indexAddr Try.underlying60 ti5 (by decide) rfl rfl (by assumption) (by omega)) ?_
                refine RW.op1 rfl (runs_load1 sc5 rfl (hst.cell_imm (RdB.at (by assumption) (by omega) (by omega)))) ?_
                refine RW.op1 rfl (runs_conv64 (by rw [Try.underlying5]; rfl) Try.underlying3 rfl (bat_ok _ _)) ?_; refine RW.op1 rfl (runs_add rfl rfl (by omega)) ?_; refine RW.op1 rfl (runs_assign rfl) ?_; refine RW.done ?_; refine AQ.next ?_; refine CW.seq ?_; refine CW.drawSt hst (.q 0 (.q 1 (.q 2 (.q 3 (.q 4 (.q 5 (.q 6 (.q 7 (.q 8 (.q 9 (.q 10 .nil))))))))))) follows (by kernel_rfl) (fun w hst => ?_); refine DRW.q rfl rfl (fun w' hF => runs_move rfl) ?_; refine DRW.q rfl rfl (fun w' hF => runs_move rfl) ?_
                have hp82 : RdB I (partV v (2 : Int).toNat (2 + bat b 1).toNat 1) ((b.drop 2).take (bat b 1).toNat) := by
                  have h9 := RdB.part hv (lo := (2 : Int).toNat) (hi := (2 + bat b 1).toNat) (by omega) (by omega); rw [show (2 + bat b 1).toNat - (2 : Int).toNat = (bat b 1).toNat by omega] at h9; exact h9
                refine DRW.q rfl rfl (fun w' hF => RdL.slice_lh Try.underlying60 ti5 rfl rfl rfl hv (by omega)) ?_; refine DRW.q rfl rfl (FSt.string Try.underlying60 Try.underlying5 Try.underlying9 rfl hp82) ?_; refine DRW.q rfl rfl (fun w' hF => runs_makeIface con9 rfl) ?_; refine DRW.q rfl rfl (fun w' hF => runs_move rfl) ?_; refine DRW.q rfl rfl (fun w' hF => runs_move rfl) ?_; have hp87 := RdB.part hv (lo := (2 + bat b 1 : Int).toNat) (hi := b.length) (by omega) (by omega); rw [List.take_of_length_le (by rw [List.length_drop]; omega)] at hp87; refine DRW.q rfl rfl (fun w' hF => RdL.slice_l Try.underlying60 ti5 rfl rfl hv (by omega)) ?_; refine DRW.q rfl rfl (fun w' hF => runs_assign rfl) ?_; refine DRW.q rfl rfl (fun w' hF => runs_assign rfl) ?_; refine DRW.q rfl rfl (fun w' hF => runs_assign rfl) ?_; refine DRW.done ?_; refine AQ.next ?_; refine CW.ret ?_; refine AQ.block_ret ?_; refine AQ.past_ret ?_; refine AQ.retL (rs := [.tmp 2, .tmp 3, .tmp 4]) (vs := [_, _, _]) rfl ⟨rfl, rfl, rfl, trivial⟩ (by simp) ?_; rw [dec1_txt (by omega) (by omega) (by omega)]
                have e87 : (2 + bat b 1).toNat = 2 + (bat b 1).toNat := by omega
                exact ⟨_, rfl, hst, by show RdB _ _ (b.drop (2 + (bat b 1).toNat)); rw [← e87]; exact hp87⟩
              · have hcb55 := hc55; try simp only [decide_eq_true_eq, decide_eq_false_iff_not] at hc55
                refine CW.skip ?_; refine AQ.block_normal ?_; refine AQ.next ?_; refine CW.seq ?_; refine CW.region ?_; refine RW.op1 rfl (runs_assign rfl) ?_; refine RW.op1 rfl (runs_assign rfl) ?_; refine RW.op1 rfl (runs_assign rfl) ?_; refine RW.done ?_; refine AQ.next ?_; refine CW.ret ?_; refine AQ.retL (rs := [.tmp 2, .tmp 3, .tmp 4]) (vs := [_, _, _]) rfl ⟨rfl, rfl, rfl, trivial⟩ (by simp) ?_; rw [dec1_no (by omega) (by omega) (by omega)]; exact ⟨_, rfl, hst, RdL.nil 1⟩
            · have hb65p := hb65; try simp only [decide_eq_true_eq, decide_eq_false_iff_not] at hb65p
              refine RW.off_guard rfl rfl rfl rfl hb65 ?_; refine RW.off_guard rfl rfl rfl rfl hb65 ?_; refine RW.off_guard rfl rfl rfl rfl hb65 ?_; refine RW.off_guard rfl rfl rfl rfl hb65 ?_; refine RW.off_guard rfl rfl rfl rfl hb65 ?_; refine RW.off_guard rfl rfl rfl rfl hb65 ?_; refine RW.off_guard rfl rfl rfl rfl hb65 ?_; refine RW.off_guard rfl rfl rfl rfl hb65 ?_; refine RW.op1 rfl (runs_pick_false rfl hb65 rfl) ?_; refine RW.op1 rfl (runs_assign rfl) ?_; refine RW.done ?_; refine AQ.next ?_; refine CW.cond_false rfl ?_; refine CW.skip ?_; refine AQ.block_normal ?_; refine AQ.next ?_; refine CW.seq ?_; refine CW.region ?_; refine RW.op1 rfl (runs_assign rfl) ?_; refine RW.op1 rfl (runs_assign rfl) ?_; refine RW.op1 rfl (runs_assign rfl) ?_; refine RW.done ?_; refine AQ.next ?_; refine CW.ret ?_; refine AQ.retL (rs := [.tmp 2, .tmp 3, .tmp 4]) (vs := [_, _, _]) rfl ⟨rfl, rfl, rfl, trivial⟩ (by simp) ?_; rw [dec1_no (by omega) (by omega) (by omega)]; exact ⟨_, rfl, hst, RdL.nil 1⟩
          · have hb60p := hb60; try simp only [decide_eq_true_eq, decide_eq_false_iff_not] at hb60p
            refine RW.off_guard rfl rfl rfl rfl hb60 ?_; refine RW.off_guard rfl rfl rfl rfl hb60 ?_; refine RW.off_guard rfl rfl rfl rfl hb60 ?_; refine RW.op1 rfl (runs_pick_false rfl hb60 rfl) ?_; refine RW.op1 rfl (runs_move rfl) ?_; refine RW.off_guard rfl rfl rfl rfl rfl ?_; refine RW.off_guard rfl rfl rfl rfl rfl ?_; refine RW.off_guard rfl rfl rfl rfl rfl ?_; refine RW.off_guard rfl rfl rfl rfl rfl ?_; refine RW.off_guard rfl rfl rfl rfl rfl ?_; refine RW.off_guard rfl rfl rfl rfl rfl ?_; refine RW.off_guard rfl rfl rfl rfl rfl ?_; refine RW.off_guard rfl rfl rfl rfl rfl ?_; refine RW.op1 rfl (runs_pick_false rfl rfl rfl) ?_; refine RW.op1 rfl (runs_assign rfl) ?_; refine RW.done ?_; refine AQ.next ?_; refine CW.cond_false rfl ?_; refine CW.skip ?_; refine AQ.block_normal ?_; refine AQ.next ?_; refine CW.seq ?_; refine CW.region ?_; refine RW.op1 rfl (runs_assign rfl) ?_; refine RW.op1 rfl (runs_assign rfl) ?_; refine RW.op1 rfl (runs_assign rfl) ?_; refine RW.done ?_; refine AQ.next ?_; refine CW.ret ?_; refine AQ.retL (rs := [.tmp 2, .tmp 3, .tmp 4]) (vs := [_, _, _]) rfl ⟨rfl, rfl, rfl, trivial⟩ (by simp) ?_; rw [dec1_no (by omega) (by omega) (by omega)]; exact ⟨_, rfl, hst, RdL.nil 1⟩
      · have hb32p := hb32; try simp only [decide_eq_true_eq, decide_eq_false_iff_not] at hb32p
        refine RW.off_guard rfl rfl rfl rfl hb32 ?_; refine RW.off_guard rfl rfl rfl rfl hb32 ?_; refine RW.off_guard rfl rfl rfl rfl hb32 ?_; refine RW.op1 rfl (runs_pick_false rfl hb32 rfl) ?_; refine RW.op1 rfl (runs_assign rfl) ?_; refine RW.done ?_; refine AQ.next ?_; refine CW.cond_false rfl ?_; refine CW.seq ?_; refine CW.region ?_; refine RW.op1 rfl (runs_move rfl) ?_
        refine RW.op1 rfl (RdL.indexAddr Try.underlying60 ti5 (by decide) rfl rfl (by assumption) (by omega)) ?_
        refine RW.op1 rfl (runs_load1 sc5 rfl (hst.cell_imm (RdB.at (by assumption) (by omega) (by omega)))) ?_
        refine RW.op1 rfl (runs_eqI rfl rfl) ?_; refine RW.op1 rfl (runs_move rfl) ?_; refine RW.split (t := 60) rfl (fun hb60 => ?_) (fun hb60 => ?_)
        · have hb60p := hb60; try simp only [decide_eq_true_eq, decide_eq_false_iff_not] at hb60p
          refine RW.on_guard rfl rfl rfl rfl hb60 ?_; refine RW.op1 rfl (runs_move rfl) ?_; refine RW.on_guard rfl rfl rfl rfl hb60 ?_
          refine RW.op1 rfl (RdL.len Try.underlying60 rfl (by assumption)) ?_
          refine RW.on_guard rfl rfl rfl rfl hb60 ?_; refine RW.op1 rfl (runs_gtr rfl rfl) ?_; refine RW.op1 rfl (runs_pick_true rfl hb60 rfl) ?_; refine RW.op1 rfl (runs_move rfl) ?_; refine RW.split (t := 65) rfl (fun hb65 => ?_) (fun hb65 => ?_)
          · have hb65p := hb65; try simp only [decide_eq_true_eq, decide_eq_false_iff_not] at hb65p
            refine RW.on_guard rfl rfl rfl rfl hb65 ?_; refine RW.op1 rfl (runs_move rfl) ?_; refine RW.on_guard rfl rfl rfl rfl hb65 ?_
            refine RW.op1 rfl (RdL.len Try.underlying60 rfl (by assumption)) ?_
            refine RW.on_guard rfl rfl rfl rfl hb65 ?_; refine RW.op1 rfl (runs_move rfl) ?_; refine RW.on_guard rfl rfl rfl rfl hb65 ?_
            refine RW.op1 rfl (RdL.indexAddr Try.underlying60 ti5 (by decide) rfl rfl (by assumption) (by omega)) ?_
            refine RW.on_guard rfl rfl rfl rfl hb65 ?_
            refine RW.op1 rfl (runs_load1 sc5 rfl (hst.cell_imm (RdB.at (by assumption) (by omega) (by omega)))) ?_
            refine RW.on_guard rfl rfl rfl rfl hb65 ?_; refine RW.op1 rfl (runs_conv64 (by rw [Try.underlying5]; rfl) Try.underlying3 rfl (bat_ok _ _)) ?_; refine RW.on_guard rfl rfl rfl rfl hb65 ?_; refine RW.op1 rfl (runs_add rfl rfl (by omega)) ?_; refine RW.on_guard rfl rfl rfl rfl hb65 ?_; refine RW.op1 rfl (runs_geq rfl rfl) ?_; refine RW.op1 rfl (runs_pick_true rfl hb65 rfl) ?_; refine RW.op1 rfl (runs_assign rfl) ?_; refine RW.done ?_; refine AQ.next ?_; refine CW.cond rfl (fun hc55 => ?_) (fun hc55 => ?_)
            · have hcb55 := hc55; try simp only [decide_eq_true_eq, decide_eq_false_iff_not] at hc55
              refine CW.seq ?_; refine CW.region ?_; refine RW.op1 rfl (runs_move rfl) ?_
              refine RW.op1 rfl (RdL.indexAddr Try.underlying60 ti5 (by decide) rfl rfl (by assumption) (by omega)) ?_
              refine RW.op1 rfl (runs_load1 sc5 rfl (hst.cell_imm (RdB.at (by assumption) (by omega) (by omega)))) ?_
              refine RW.op1 rfl (runs_conv64 (by rw [Try.underlying5]; rfl) Try.underlying3 rfl (bat_ok _ _)) ?_; refine RW.op1 rfl (runs_add rfl rfl (by omega)) ?_; refine RW.op1 rfl (runs_assign rfl) ?_; refine RW.done ?_; refine AQ.next ?_; refine CW.seq ?_; refine CW.drawSt hst (.q 0 (.q 1 (.q 2 (.q 3 (.q 4 (.q 5 (.q 6 (.q 7 (.q 8 (.q 9 (.q 10 .nil))))))))))) follows (by kernel_rfl) (fun w hst => ?_); refine DRW.q rfl rfl (fun w' hF => runs_move rfl) ?_; refine DRW.q rfl rfl (fun w' hF => runs_move rfl) ?_
              have hp82 : RdB I (partV v (2 : Int).toNat (2 + bat b 1).toNat 1) ((b.drop 2).take (bat b 1).toNat) := by
                have h9 := RdB.part hv (lo := (2 : Int).toNat) (hi := (2 + bat b 1).toNat) (by omega) (by omega); rw [show (2 + bat b 1).toNat - (2 : Int).toNat = (bat b 1).toNat by omega] at h9; exact h9
              refine DRW.q rfl rfl (fun w' hF => RdL.slice_lh Try.underlying60 ti5 rfl rfl rfl hv (by omega)) ?_; refine DRW.q rfl rfl (FSt.string Try.underlying60 Try.underlying5 Try.underlying9 rfl hp82) ?_; refine DRW.q rfl rfl (fun w' hF => runs_makeIface con9 rfl) ?_; refine DRW.q rfl rfl (fun w' hF => runs_move rfl) ?_; refine DRW.q rfl rfl (fun w' hF => runs_move rfl) ?_; have hp87 := RdB.part hv (lo := (2 + bat b 1 : Int).toNat) (hi := b.length) (by omega) (by omega); rw [List.take_of_length_le (by rw [List.length_drop]; omega)] at hp87; refine DRW.q rfl rfl (fun w' hF => RdL.slice_l Try.underlying60 ti5 rfl rfl hv (by omega)) ?_; refine DRW.q rfl rfl (fun w' hF => runs_assign rfl) ?_; refine DRW.q rfl rfl (fun w' hF => runs_assign rfl) ?_; refine DRW.q rfl rfl (fun w' hF => runs_assign rfl) ?_; refine DRW.done ?_; refine AQ.next ?_; refine CW.ret ?_; refine AQ.block_ret ?_; refine AQ.past_ret ?_; refine AQ.retL (rs := [.tmp 2, .tmp 3, .tmp 4]) (vs := [_, _, _]) rfl ⟨rfl, rfl, rfl, trivial⟩ (by simp) ?_; rw [dec1_txt (by omega) (by omega) (by omega)]
              have e87 : (2 + bat b 1).toNat = 2 + (bat b 1).toNat := by omega
              exact ⟨_, rfl, hst, by show RdB _ _ (b.drop (2 + (bat b 1).toNat)); rw [← e87]; exact hp87⟩
            · have hcb55 := hc55; try simp only [decide_eq_true_eq, decide_eq_false_iff_not] at hc55
              refine CW.skip ?_; refine AQ.block_normal ?_; refine AQ.next ?_; refine CW.seq ?_; refine CW.region ?_; refine RW.op1 rfl (runs_assign rfl) ?_; refine RW.op1 rfl (runs_assign rfl) ?_; refine RW.op1 rfl (runs_assign rfl) ?_; refine RW.done ?_; refine AQ.next ?_; refine CW.ret ?_; refine AQ.retL (rs := [.tmp 2, .tmp 3, .tmp 4]) (vs := [_, _, _]) rfl ⟨rfl, rfl, rfl, trivial⟩ (by simp) ?_; rw [dec1_no (by omega) (by omega) (by omega)]; exact ⟨_, rfl, hst, RdL.nil 1⟩
          · have hb65p := hb65; try simp only [decide_eq_true_eq, decide_eq_false_iff_not] at hb65p
            refine RW.off_guard rfl rfl rfl rfl hb65 ?_; refine RW.off_guard rfl rfl rfl rfl hb65 ?_; refine RW.off_guard rfl rfl rfl rfl hb65 ?_; refine RW.off_guard rfl rfl rfl rfl hb65 ?_; refine RW.off_guard rfl rfl rfl rfl hb65 ?_; refine RW.off_guard rfl rfl rfl rfl hb65 ?_; refine RW.off_guard rfl rfl rfl rfl hb65 ?_; refine RW.off_guard rfl rfl rfl rfl hb65 ?_; refine RW.op1 rfl (runs_pick_false rfl hb65 rfl) ?_; refine RW.op1 rfl (runs_assign rfl) ?_; refine RW.done ?_; refine AQ.next ?_; refine CW.cond_false rfl ?_; refine CW.skip ?_; refine AQ.block_normal ?_; refine AQ.next ?_; refine CW.seq ?_; refine CW.region ?_; refine RW.op1 rfl (runs_assign rfl) ?_; refine RW.op1 rfl (runs_assign rfl) ?_; refine RW.op1 rfl (runs_assign rfl) ?_; refine RW.done ?_; refine AQ.next ?_; refine CW.ret ?_; refine AQ.retL (rs := [.tmp 2, .tmp 3, .tmp 4]) (vs := [_, _, _]) rfl ⟨rfl, rfl, rfl, trivial⟩ (by simp) ?_; rw [dec1_no (by omega) (by omega) (by omega)]; exact ⟨_, rfl, hst, RdL.nil 1⟩
        · have hb60p := hb60; try simp only [decide_eq_true_eq, decide_eq_false_iff_not] at hb60p
          refine RW.off_guard rfl rfl rfl rfl hb60 ?_; refine RW.off_guard rfl rfl rfl rfl hb60 ?_; refine RW.off_guard rfl rfl rfl rfl hb60 ?_; refine RW.op1 rfl (runs_pick_false rfl hb60 rfl) ?_; refine RW.op1 rfl (runs_move rfl) ?_; refine RW.off_guard rfl rfl rfl rfl rfl ?_; refine RW.off_guard rfl rfl rfl rfl rfl ?_; refine RW.off_guard rfl rfl rfl rfl rfl ?_; refine RW.off_guard rfl rfl rfl rfl rfl ?_; refine RW.off_guard rfl rfl rfl rfl rfl ?_; refine RW.off_guard rfl rfl rfl rfl rfl ?_; refine RW.off_guard rfl rfl rfl rfl rfl ?_; refine RW.off_guard rfl rfl rfl rfl rfl ?_; refine RW.op1 rfl (runs_pick_false rfl rfl rfl) ?_; refine RW.op1 rfl (runs_assign rfl) ?_; refine RW.done ?_; refine AQ.next ?_; refine CW.cond_false rfl ?_; refine CW.skip ?_; refine AQ.block_normal ?_; refine AQ.next ?_; refine CW.seq ?_; refine CW.region ?_; refine RW.op1 rfl (runs_assign rfl) ?_; refine RW.op1 rfl (runs_assign rfl) ?_; refine RW.op1 rfl (runs_assign rfl) ?_; refine RW.done ?_; refine AQ.next ?_; refine CW.ret ?_; refine AQ.retL (rs := [.tmp 2, .tmp 3, .tmp 4]) (vs := [_, _, _]) rfl ⟨rfl, rfl, rfl, trivial⟩ (by simp) ?_; rw [dec1_no (by omega) (by omega) (by omega)]; exact ⟨_, rfl, hst, RdL.nil 1⟩
set_option maxRecDepth 100000 in
set_option maxHeartbeats 1000000 in
theorem dec_spec {w0 w : World} {I : Imm} {L : Own} (hst : St w0 w I L) {v : Value} {b : List UInt8} (hv : RdB I v b) (hlen : b.length ≤ 100000000) :
    Calls Try.prog 44 #[v] w fun r w' => ∃ I' v', Imm.le I I' ∧ r = .returned (.tuple #[v', .int .i64 (if (decA b).isSome then 0 else 2)]) ∧ St w0 w' I' L ∧ RdA I' v' ((decA b).getD []) := by
  refine enter Try.func44 rfl (N := 25) rfl rfl ?_
  simp only [List.zipIdx_cons, List.zipIdx_nil, List.map_cons, List.map_nil, Nat.zero_add, Nat.reduceAdd]
  have hle := Imm.le.refl I; refine CW.seq ?_; refine CW.region ?_; refine RW.op1 rfl (runs_assign rfl) ?_; refine RW.op1 rfl (runs_assign rfl) ?_; refine RW.done ?_; refine AQ.next ?_; refine CW.seq ?_; refine CW.region ?_; refine RW.op1 rfl (runs_assign rfl) ?_; refine RW.done ?_; refine AQ.next ?_; refine CW.seq ?_; refine CW.block ?_; refine CW.loop (Nat × Value × Value × List AV × Own × Imm) (fun x w => I.le x.2.2.2.2.2 ∧ St w0 w x.2.2.2.2.2 (x.2.2.2.2.1 ++ L) ∧ RdB x.2.2.2.2.2 x.2.1 (b.drop x.1) ∧ GrowA x.2.2.1 x.2.2.2.1 x.2.2.2.2.1 ∧ decA b = (decA (b.drop x.1)).map (x.2.2.2.1 ++ ·) ∧ x.1 ≤ b.length ∧ x.2.2.2.1.length ≤ x.1) (fun x => [(0, x.2.1), (4, x.2.2.1)]) (fun x => b.length - x.1) ⟨(0, v, .slice none 0 0, [], [], I), ⟨Imm.le.refl _, hst, hv, Grow.nil _ _, by simp, Nat.zero_le _, Nat.le_refl _⟩, ⟨rfl, rfl, trivial⟩⟩ ?_; rintro ⟨p, vb, vo, av, Lo, I5⟩ w ⟨hle, hstn, hb, hg, hd, hp, hal⟩; dsimp only at hle hstn hb hg hd hp hal ⊢; clear hst; have hst := hstn; clear hstn; have hdl : (b.drop p).length = b.length - p := List.length_drop; refine CW.seq ?_; refine CW.seq ?_; refine CW.region ?_; refine RW.op1 rfl (runs_move rfl) ?_; refine RW.op1 rfl (RdL.len Try.underlying60 rfl hb) ?_; refine RW.op1 rfl (runs_gtr rfl rfl) ?_; refine RW.done ?_; refine AQ.next ?_; refine CW.cond rfl (fun hc10 => ?_) (fun hc10 => ?_)
  · have hcb10 := hc10; try simp only [decide_eq_true_eq, decide_eq_false_iff_not] at hc10
    have hpos : 0 < (b.drop p).length := by omega
    have hpos2 : p < b.length := by omega
    refine CW.skip ?_; refine AQ.next ?_; refine CW.block ?_; refine CW.seq ?_; refine CW.region ?_; refine RW.op1 rfl (runs_move rfl) ?_; refine RW.call rfl call67 rfl rfl (one_spec hst hb hpos) ?_; rintro e w ⟨vr, rfl, hstn, hr⟩; clear hst; have hst := hstn; clear hstn; refine ⟨_, rfl, ?_⟩; refine RW.op1 rfl (runs_move rfl) ?_; refine RW.op1 rfl (runs_extract rfl rfl) ?_; refine RW.op1 rfl (runs_extract rfl rfl) ?_; refine RW.op1 rfl (runs_extract rfl rfl) ?_; refine RW.op1 rfl (runs_assign rfl) ?_; refine RW.op1 rfl (runs_assign rfl) ?_; refine RW.op1 rfl (runs_assign rfl) ?_; refine RW.done ?_; refine AQ.next ?_; refine CW.seq ?_; refine CW.seq ?_; refine CW.region ?_; refine RW.op1 rfl (runs_move rfl) ?_; refine RW.op1 rfl (runs_not rfl) ?_; refine RW.done ?_; refine AQ.next ?_; refine CW.cond rfl (fun hc18 => ?_) (fun hc18 => ?_)
    · have hcb18 := hc18; try simp only [decide_eq_true_eq, decide_eq_false_iff_not] at hc18
      skip
      refine CW.seq ?_; refine CW.region ?_; refine RW.op1 rfl (runs_assign rfl) ?_; refine RW.op1 rfl (runs_assign rfl) ?_; refine RW.done ?_; refine AQ.next ?_; refine CW.ret ?_; refine AQ.past_ret ?_; refine AQ.block_ret ?_; refine AQ.past_ret ?_; refine AQ.block_ret ?_; refine AQ.past_ret ?_; refine AQ.ret2 rfl rfl rfl ?_
      have hn : dec1 (b.drop p) = none := by simpa using hc18
      rw [hd, decA_none hpos hn]; exact ⟨_, _, hle, rfl, hst.sub (List.sublist_append_right _ _), RdL.nil 1⟩
    · have hcb18 := hc18; try simp only [decide_eq_true_eq, decide_eq_false_iff_not] at hc18
      obtain ⟨⟨a, k⟩, hd1⟩ : ∃ x, dec1 (b.drop p) = some x := Option.isSome_iff_exists.1 (by simpa using hc18); rw [hd1] at hr ⊢; dsimp only at hr ⊢; have hga := dec1_good hd1; refine CW.skip ?_; refine AQ.next ?_; refine CW.region ?_; refine RW.op1 rfl (runs_move rfl) ?_; refine RW.op1 rfl (runs_move rfl) ?_; refine RW.opE rfl (runs_lit1R Try.underlying77 ti20 (by decide) rfl rfl rfl (by intro u hu; rw [List.mem_singleton.1 hu]; exact AV.one hga) hst) ?_; rintro u2 w ⟨I2, hI2, hstn, h2⟩; clear hst; have hst := hstn; clear hstn; replace hb := hb.mono hI2; replace hr := hr.mono hI2; replace hle := hle.trans hI2; refine RW.opE rfl (runs_appendR Try.underlying77 ti20 rfl (by decide) rfl rfl hst (by assumption) (by assumption) (by (try simp) <;> omega) (by (try simp) <;> (try unfold maxLen) <;> omega)) ?_; rintro u3 w ⟨Lv3, hstn, hg3⟩; clear hst; have hst := hstn; clear hstn; refine RW.op1 rfl (runs_move rfl) ?_; refine RW.op1 rfl (runs_assign rfl) ?_; refine RW.op1 rfl (runs_assign rfl) ?_; refine RW.done ?_; refine AQ.block_normal ?_; have hk1 := dec1_pos hd1; have hk2 := dec1_le hpos hd1; rw [List.drop_drop] at hr; have hd2 := decA_some hpos hd1; rw [List.drop_drop] at hd2
      exact AQ.again (x := (p, vb, vo, av, Lo, I5)) (p + k, _, _, av ++ [a], _, _) ⟨hle, hst, hr, GrowA.push (by assumption), by rw [hd, hd2, Option.map_map]; congr 1; funext x; simp, by omega, by rw [List.length_append]; simp only [List.length_cons, List.length_nil]; omega⟩ ⟨rfl, rfl, trivial⟩ (by dsimp only; omega)
  · have hcb10 := hc10; try simp only [decide_eq_true_eq, decide_eq_false_iff_not] at hc10
    skip
    refine CW.exit ?_; refine AQ.past_exit ?_; refine AQ.past_exit ?_; refine AQ.block_hit ?_; refine AQ.next ?_; refine CW.seq ?_; refine CW.region ?_; refine RW.op1 rfl (runs_move rfl) ?_; refine RW.op1 rfl (runs_assign rfl) ?_; refine RW.op1 rfl (runs_assign rfl) ?_; refine RW.done ?_; refine AQ.next ?_; refine CW.ret ?_; refine AQ.ret2 rfl rfl rfl ?_; have he : b.drop p = [] := List.eq_nil_of_length_eq_zero (by omega); rw [he, decA_nil] at hd; rw [hd]; obtain ⟨I', hI, hst, hr⟩ := Grow.freeze hg hst; exact ⟨I', _, hle.trans hI, rfl, hst, by simpa using hr⟩
def atA (av : List AV) (k : Int) : AV := if h : 0 ≤ k ∧ k < av.length then av[k.toNat]'(by omega) else .oth .nilIface
theorem atA_in {av : List AV} {k : Int} (h : 0 ≤ k ∧ k < av.length) : atA av k = av[k.toNat]'(by omega) := by unfold atA; rw [dif_pos h]
theorem atA_out {av : List AV} {k : Int} (h : ¬ (0 ≤ k ∧ k < av.length)) : atA av k = .oth .nilIface := by unfold atA; rw [dif_neg h]
theorem AV.weak {m : Nat} {o : Bool} {a : AV} (h : a.good m o) : a.good m true := by
  cases a <;> first | exact h | exact ⟨rfl, h.2⟩
theorem atA_good {m : Nat} {o : Bool} {av : List AV} (h : ∀ a ∈ av, a.good m o) (k : Int) : (atA av k).good m true := by
  by_cases hk : 0 ≤ k ∧ k < av.length
  · rw [atA_in hk]; exact AV.weak (h _ (List.getElem_mem _))
  · rw [atA_out hk]; exact ⟨rfl, rfl⟩
set_option maxRecDepth 100000 in
set_option maxHeartbeats 1000000 in
theorem at_spec {w0 w : World} {I : Imm} {L : Own} (hst : St w0 w I L) {v : Value} {av : List AV} (hv : RdA I v av) (k : Int) :
    Calls Try.prog 68 #[v, .int .i64 k] w fun e w' => e = .returned (atA av k).v ∧ St w0 w' I L := by
  refine enter Try.func68 rfl (N := 17) rfl rfl ?_
  simp only [List.zipIdx_cons, List.zipIdx_nil, List.map_cons, List.map_nil, Nat.zero_add, Nat.reduceAdd]
  have hle := Imm.le.refl I; refine CW.seq ?_; refine CW.region ?_; refine RW.op1 rfl (runs_assign rfl) ?_; refine RW.done ?_; refine AQ.next ?_; refine CW.seq ?_; refine CW.seq ?_; refine CW.region ?_; refine RW.op1 rfl (runs_move rfl) ?_; refine RW.op1 rfl (runs_lss rfl rfl) ?_; refine RW.op1 rfl (runs_move rfl) ?_; refine RW.split (t := 7) rfl (fun hb7 => ?_) (fun hb7 => ?_)
  · have hb7p := hb7; try simp only [decide_eq_true_eq, decide_eq_false_iff_not] at hb7p
    refine RW.off_guard rfl rfl rfl rfl hb7 ?_; refine RW.off_guard rfl rfl rfl rfl hb7 ?_; refine RW.off_guard rfl rfl rfl rfl hb7 ?_; refine RW.off_guard rfl rfl rfl rfl hb7 ?_; refine RW.op1 rfl (runs_pick_true rfl hb7 rfl) ?_; refine RW.done ?_; refine AQ.next ?_; refine CW.cond_true rfl ?_; refine CW.seq ?_; refine CW.region ?_; refine RW.op1 rfl (runs_assign rfl) ?_; refine RW.done ?_; refine AQ.next ?_; refine CW.ret ?_; refine AQ.past_ret ?_; refine AQ.ret1 rfl rfl ?_; rw [atA_out (by omega)]; exact ⟨rfl, hst⟩
  · have hb7p := hb7; try simp only [decide_eq_true_eq, decide_eq_false_iff_not] at hb7p
    refine RW.on_guard rfl rfl rfl rfl hb7 ?_; refine RW.op1 rfl (runs_move rfl) ?_; refine RW.on_guard rfl rfl rfl rfl hb7 ?_; refine RW.op1 rfl (runs_move rfl) ?_; refine RW.on_guard rfl rfl rfl rfl hb7 ?_; refine RW.op1 rfl (RdL.len Try.underlying77 rfl hv) ?_; refine RW.on_guard rfl rfl rfl rfl hb7 ?_; refine RW.op1 rfl (runs_geq rfl rfl) ?_; refine RW.op1 rfl (runs_pick_false rfl hb7 rfl) ?_; refine RW.done ?_; refine AQ.next ?_; refine CW.cond rfl (fun hc12 => ?_) (fun hc12 => ?_)
    · have hcb12 := hc12; try simp only [decide_eq_true_eq, decide_eq_false_iff_not] at hc12
      refine CW.seq ?_; refine CW.region ?_; refine RW.op1 rfl (runs_assign rfl) ?_; refine RW.done ?_; refine AQ.next ?_; refine CW.ret ?_; refine AQ.past_ret ?_; refine AQ.ret1 rfl rfl ?_; rw [atA_out (by omega)]; exact ⟨rfl, hst⟩
    · have hcb12 := hc12; try simp only [decide_eq_true_eq, decide_eq_false_iff_not] at hc12
      refine CW.skip ?_; refine AQ.next ?_; refine CW.seq ?_; refine CW.region ?_; refine RW.op1 rfl (runs_move rfl) ?_; refine RW.op1 rfl (runs_move rfl) ?_; refine RW.op1 rfl (RdL.indexAddr Try.underlying77 ti20 (by decide) rfl rfl hv (by omega)) ?_; refine RW.op1 rfl (runs_load1 sc20 rfl (hst.cell_imm (RdA.at hv (by omega) (by omega)))) ?_; refine RW.op1 rfl (runs_assign rfl) ?_; refine RW.done ?_; refine AQ.next ?_; refine CW.ret ?_; refine AQ.ret1 rfl rfl ?_; rw [atA_in (by omega)]; exact ⟨rfl, hst⟩
set_option maxRecDepth 100000 in
set_option maxHeartbeats 1000000 in
theorem int_spec {w0 w : World} {I : Imm} {L : Own} (hst : St w0 w I L) {v : Value} {av : List AV} {m : Nat} {o : Bool} (hv : RdA I v av) (hgood : ∀ a ∈ av, a.good m o) (k : Int) :
    Calls Try.prog 46 #[v, .int .i64 k] w fun e w' => e = .returned (.tuple #[asV 3 (.int .i64 0) (atA av k).v, .bool (asB 3 (atA av k).v)]) ∧ St w0 w' I L := by
  refine enter Try.func46 rfl (N := 17) rfl rfl ?_
  simp only [List.zipIdx_cons, List.zipIdx_nil, List.map_cons, List.map_nil, Nat.zero_add, Nat.reduceAdd]
  have hle := Imm.le.refl I; refine CW.seq ?_; refine CW.region ?_; refine RW.op1 rfl (runs_assign rfl) ?_; refine RW.op1 rfl (runs_assign rfl) ?_; refine RW.done ?_; refine AQ.next ?_; refine CW.seq ?_; refine CW.region ?_; refine RW.op1 rfl (runs_move rfl) ?_; refine RW.op1 rfl (runs_move rfl) ?_; refine RW.call rfl call68 rfl rfl (at_spec hst hv k) ?_; rintro e w ⟨rfl, hstn⟩; clear hst; have hst := hstn; clear hstn; have hisI := AV.isI (atA_good hgood k); refine ⟨_, rfl, ?_⟩; refine RW.op1 rfl (runs_assertOk con3 ti3 rfl (by first | rfl | assumption)) ?_; refine RW.op1 rfl (runs_move rfl) ?_; refine RW.op1 rfl (runs_extract rfl rfl) ?_; refine RW.op1 rfl (runs_extract rfl rfl) ?_; refine RW.op1 rfl (runs_assign rfl) ?_; refine RW.op1 rfl (runs_assign rfl) ?_; refine RW.done ?_; refine AQ.next ?_; refine CW.seq ?_; refine CW.region ?_; refine RW.op1 rfl (runs_move rfl) ?_; refine RW.op1 rfl (runs_move rfl) ?_; refine RW.op1 rfl (runs_assign rfl) ?_; refine RW.op1 rfl (runs_assign rfl) ?_; refine RW.done ?_; refine AQ.next ?_; refine CW.ret ?_; refine AQ.ret2 rfl rfl rfl ?_; exact ⟨rfl, hst⟩
set_option maxRecDepth 100000 in
set_option maxHeartbeats 1000000 in
theorem text__spec {w0 w : World} {I : Imm} {L : Own} (hst : St w0 w I L) {v : Value} {av : List AV} {m : Nat} {o : Bool} (hv : RdA I v av) (hgood : ∀ a ∈ av, a.good m o) (k : Int) :
    Calls Try.prog 45 #[v, .int .i64 k] w fun e w' => e = .returned (.tuple #[asV 9 (.string ⟨#[]⟩) (atA av k).v, .bool (asB 9 (atA av k).v)]) ∧ St w0 w' I L := by
  refine enter Try.func45 rfl (N := 17) rfl rfl ?_
  simp only [List.zipIdx_cons, List.zipIdx_nil, List.map_cons, List.map_nil, Nat.zero_add, Nat.reduceAdd]
  have hle := Imm.le.refl I; refine CW.seq ?_; refine CW.region ?_; refine RW.op1 rfl (runs_assign rfl) ?_; refine RW.op1 rfl (runs_assign rfl) ?_; refine RW.done ?_; refine AQ.next ?_; refine CW.seq ?_; refine CW.region ?_; refine RW.op1 rfl (runs_move rfl) ?_; refine RW.op1 rfl (runs_move rfl) ?_; refine RW.call rfl call68 rfl rfl (at_spec hst hv k) ?_; rintro e w ⟨rfl, hstn⟩; clear hst; have hst := hstn; clear hstn; have hisI := AV.isI (atA_good hgood k); refine ⟨_, rfl, ?_⟩; refine RW.op1 rfl (runs_assertOk con9 ti9 rfl (by first | rfl | assumption)) ?_; refine RW.op1 rfl (runs_move rfl) ?_; refine RW.op1 rfl (runs_extract rfl rfl) ?_; refine RW.op1 rfl (runs_extract rfl rfl) ?_; refine RW.op1 rfl (runs_assign rfl) ?_; refine RW.op1 rfl (runs_assign rfl) ?_; refine RW.done ?_; refine AQ.next ?_; refine CW.seq ?_; refine CW.region ?_; refine RW.op1 rfl (runs_move rfl) ?_; refine RW.op1 rfl (runs_move rfl) ?_; refine RW.op1 rfl (runs_assign rfl) ?_; refine RW.op1 rfl (runs_assign rfl) ?_; refine RW.done ?_; refine AQ.next ?_; refine CW.ret ?_; refine AQ.ret2 rfl rfl rfl ?_; exact ⟨rfl, hst⟩
set_option maxRecDepth 100000 in
set_option maxHeartbeats 1000000 in
theorem flag_spec {w0 w : World} {I : Imm} {L : Own} (hst : St w0 w I L) {v : Value} {av : List AV} {m : Nat} {o : Bool} (hv : RdA I v av) (hgood : ∀ a ∈ av, a.good m o) (k : Int) :
    Calls Try.prog 99 #[v, .int .i64 k] w fun e w' => e = .returned (.tuple #[asV 4 (.bool false) (atA av k).v, .bool (asB 4 (atA av k).v)]) ∧ St w0 w' I L := by
  refine enter Try.func99 rfl (N := 17) rfl rfl ?_
  simp only [List.zipIdx_cons, List.zipIdx_nil, List.map_cons, List.map_nil, Nat.zero_add, Nat.reduceAdd]
  have hle := Imm.le.refl I; refine CW.seq ?_; refine CW.region ?_; refine RW.op1 rfl (runs_assign rfl) ?_; refine RW.op1 rfl (runs_assign rfl) ?_; refine RW.done ?_; refine AQ.next ?_; refine CW.seq ?_; refine CW.region ?_; refine RW.op1 rfl (runs_move rfl) ?_; refine RW.op1 rfl (runs_move rfl) ?_; refine RW.call rfl call68 rfl rfl (at_spec hst hv k) ?_; rintro e w ⟨rfl, hstn⟩; clear hst; have hst := hstn; clear hstn; have hisI := AV.isI (atA_good hgood k); refine ⟨_, rfl, ?_⟩; refine RW.op1 rfl (runs_assertOk con4 ti4 rfl (by first | rfl | assumption)) ?_; refine RW.op1 rfl (runs_move rfl) ?_; refine RW.op1 rfl (runs_extract rfl rfl) ?_; refine RW.op1 rfl (runs_extract rfl rfl) ?_; refine RW.op1 rfl (runs_assign rfl) ?_; refine RW.op1 rfl (runs_assign rfl) ?_; refine RW.done ?_; refine AQ.next ?_; refine CW.seq ?_; refine CW.region ?_; refine RW.op1 rfl (runs_move rfl) ?_; refine RW.op1 rfl (runs_move rfl) ?_; refine RW.op1 rfl (runs_assign rfl) ?_; refine RW.op1 rfl (runs_assign rfl) ?_; refine RW.done ?_; refine AQ.next ?_; refine CW.ret ?_; refine AQ.ret2 rfl rfl rfl ?_; exact ⟨rfl, hst⟩
end Go.Proofs.YtadgbifmiooikaaX
