/- Of items of one ID the last one is there. -/
import Derived.Test.YtlmmpcdjkpibcaaT
import Derived.Test.YtlmmpcdjkpibcaaV2
namespace Go.Proofs.YtlmmpcdjkpibcaaX
set_option linter.unusedVariables false
set_option linter.unusedSimpArgs false
open Go Go.RowKit Go.Proofs

set_option maxRecDepth 100000 in
set_option maxHeartbeats 1000000 in
theorem sameI_spec {w0 w : World} {I : Imm} {L : Own} (hst : St w0 w I L) {va vb : Value} {xs : List Int} (ha : RdI I va xs) (hb : RdI I vb xs) (hlen : xs.length ≤ 9223372036854775806) :
    Calls Try.prog 24 #[va, vb] w fun e w' => e = .returned (.bool true) ∧ St w0 w' I L := by
  refine enter Try.func24 rfl (N := 26) rfl rfl ?_
  simp only [List.zipIdx_cons, List.zipIdx_nil, List.map_cons, List.map_nil, Nat.zero_add, Nat.reduceAdd]
  have hle := Imm.le.refl I
  refine CW.seq ?_
  -- region 0
  refine CW.region ?_
  refine RW.op1 rfl (runs_assign rfl) ?_
  refine RW.done ?_
  refine AQ.next ?_
  refine CW.seq ?_
  refine CW.seq ?_
  -- region 1
  refine CW.region ?_
  refine RW.op1 rfl (runs_move rfl) ?_
  refine RW.op1 rfl (RdL.len Try.underlying22 rfl ha) ?_
  refine RW.op1 rfl (runs_move rfl) ?_
  refine RW.op1 rfl (RdL.len Try.underlying22 rfl hb) ?_
  refine RW.op1 rfl (runs_neI rfl rfl) ?_
  refine RW.done ?_
  refine AQ.next ?_
  refine CW.cond rfl (fun hc => absurd hc (by simp)) (fun hc => ?_)
  refine CW.skip ?_
  refine AQ.next ?_
  refine CW.seq ?_
  refine CW.seq ?_
  -- region 3
  refine CW.region ?_
  refine RW.op1 rfl (runs_assign rfl) ?_
  refine RW.done ?_
  refine AQ.next ?_
  refine CW.block ?_
  -- loop 1
  refine CW.loop Nat (fun k w => St w0 w I L ∧ k ≤ xs.length) (fun k => [(0, va), (1, vb), (5, .int .i64 (k : Int))]) (fun k => xs.length - k) ⟨0, ⟨hst, Nat.zero_le _⟩, ⟨rfl, rfl, rfl, trivial⟩⟩ ?_
  rintro k w ⟨hstn, hk⟩
  clear hst
  have hst := hstn
  clear hstn
  refine CW.seq ?_
  refine CW.seq ?_
  -- region 4
  refine CW.region ?_
  refine RW.op1 rfl (runs_move rfl) ?_
  refine RW.op1 rfl (runs_move rfl) ?_
  refine RW.op1 rfl (RdL.len Try.underlying22 rfl ha) ?_
  refine RW.op1 rfl (runs_lss rfl rfl) ?_
  refine RW.done ?_
  refine AQ.next ?_
  refine CW.cond rfl (fun hc14 => ?_) (fun hc14 => ?_)
  · have hcb14 := hc14
    try simp only [decide_eq_true_eq, decide_eq_false_iff_not] at hc14
    refine CW.skip ?_
    refine AQ.next ?_
    refine CW.seq ?_
    refine CW.block ?_
    refine CW.seq ?_
    -- region 6
    refine CW.drawSt hst (.q 0 (.q 1 (.q 2 (.q 3 (.q 4 (.q 5 (.q 6 (.q 7 (.q 8 .nil))))))))) follows (by kernel_rfl) (fun w hst => ?_)
    refine DRW.q rfl rfl (fun w' hF => runs_move rfl) ?_
    refine DRW.q rfl rfl (fun w' hF => runs_move rfl) ?_
    refine DRW.q rfl rfl (fun w' hF => RdL.indexAddr Try.underlying22 ti3 (by decide) rfl rfl ha (by omega)) ?_
    refine DRW.q rfl rfl (FSt.load1 sc3 rfl (RdI.at ha (by omega) (by omega))) ?_
    refine DRW.q rfl rfl (fun w' hF => runs_move rfl) ?_
    refine DRW.q rfl rfl (fun w' hF => runs_move rfl) ?_
    refine DRW.q rfl rfl (fun w' hF => RdL.indexAddr Try.underlying22 ti3 (by decide) rfl rfl hb (by omega)) ?_
    refine DRW.q rfl rfl (FSt.load1 sc3 rfl (RdI.at hb (by omega) (by omega))) ?_
    refine DRW.q rfl rfl (fun w' hF => runs_neI rfl rfl) ?_
    refine DRW.done ?_
    refine AQ.next ?_
    refine CW.cond rfl (fun hc => absurd hc (by simp)) (fun hc => ?_)
    refine CW.skip ?_
    refine AQ.block_normal ?_
    refine AQ.next ?_
    -- region 5
    refine CW.region ?_
    refine RW.op1 rfl (runs_move rfl) ?_
    refine RW.op1 rfl (runs_add rfl rfl (by omega)) ?_
    refine RW.op1 rfl (runs_assign rfl) ?_
    refine RW.done ?_
    exact AQ.again (x := k) (k + 1) ⟨hst, by omega⟩ ⟨rfl, rfl, rfl, trivial⟩ (by omega)
  · have hcb14 := hc14
    try simp only [decide_eq_true_eq, decide_eq_false_iff_not] at hc14
    refine CW.exit ?_
    refine AQ.past_exit ?_
    refine AQ.past_exit ?_
    refine AQ.block_hit ?_
    refine AQ.next ?_
    refine CW.seq ?_
    -- region 8
    refine CW.region ?_
    refine RW.op1 rfl (runs_assign rfl) ?_
    refine RW.done ?_
    refine AQ.next ?_
    refine CW.ret ?_
    refine AQ.ret1 rfl rfl ?_
    exact ⟨rfl, hst⟩
theorem RdH.nil (I : Imm) : RdH I (.slice none 0 0) [] := RdL.nil 2
theorem St.dropF {I : Imm} {Lt L : Own} {w0 w : World} (hst : St w0 w I (Lt ++ L)) : St w0 w I L := hst.sub (List.sublist_append_right _ _)
theorem get_midC {α : Type} (L1 L2 : List α) (a : α) : (L1 ++ a :: L2)[L1.length]? = some a := by simp
theorem set_midC {α : Type} (L1 L2 : List α) (a b : α) : (L1 ++ a :: L2).set L1.length b = L1 ++ b :: L2 := by simp
theorem nbeq (x : Bool) : (!(x == x)) = false := by cases x <;> rfl
theorem neSelf (a : Int) : decide (a ≠ a) = false := by simp
def it4 : It := { zeroIt with id := 4 }
theorem keys4 (p : It × Value) : keysUp (pput [] 4 p) = [4] := by simp [keysUp, pput]
set_option maxRecDepth 100000 in
set_option maxHeartbeats 1000000 in
theorem wakes18_spec {w0 w : World} {I : Imm} {L : Own} (hst : St w0 w I L) :
    Calls Try.prog 14 #[] w fun e w' => e = .returned (.bool true) ∧ ∃ I', I.le I' ∧ St w0 w' I' L := by
  refine enter Try.func14 rfl (N := 22) rfl rfl ?_
  simp only [List.zipIdx_cons, List.zipIdx_nil, List.map_cons, List.map_nil, Nat.zero_add, Nat.reduceAdd]
  have hle := Imm.le.refl I
  refine CW.seq ?_
  -- region 0
  refine CW.region ?_
  refine RW.op1 rfl (runs_assign rfl) ?_
  refine RW.done ?_
  refine AQ.next ?_
  refine CW.seq ?_
  -- region 1
  refine CW.region ?_
  refine RW.call rfl call7 rfl rfl (new_spec hst) ?_
  rintro e w ⟨bT, Lt, rfl, hstn, hd⟩
  clear hst
  have hst := hstn
  clear hstn
  refine ⟨_, rfl, ?_⟩
  refine RW.op1 rfl (runs_assign rfl) ?_
  refine RW.done ?_
  refine AQ.next ?_
  refine CW.seq ?_
  refine CW.seq ?_
  -- region 2
  refine CW.region ?_
  refine RW.op1 rfl (runs_move rfl) ?_
  refine RW.op1 rfl (runs_eq_nilptr Try.underlying23 rfl) ?_
  refine RW.op1 rfl (runs_move rfl) ?_
  have hk5 := (show false = false from rfl)
  refine RW.on_guard rfl rfl rfl rfl hk5 ?_
  refine RW.op1 rfl (runs_move rfl) ?_
  refine RW.on_guard rfl rfl rfl rfl hk5 ?_
  refine RW.call rfl call11 rfl rfl (next_spec hd hst) ?_
  rintro e w ⟨rfl, hstn⟩
  clear hst
  have hst := hstn
  clear hstn
  refine ⟨_, rfl, ?_⟩
  refine RW.on_guard rfl rfl rfl rfl hk5 ?_
  refine RW.op1 rfl (runs_neI rfl rfl) ?_
  refine RW.op1 rfl (runs_pick_false rfl hk5 rfl) ?_
  refine RW.done ?_
  refine AQ.next ?_
  refine CW.cond rfl (fun hc => absurd hc (by decide)) (fun hc => ?_)
  refine CW.skip ?_
  refine AQ.next ?_
  refine CW.seq ?_
  -- region 4
  refine CW.region ?_
  refine RW.op1 rfl (runs_move rfl) ?_
  refine RW.op1 rfl (runs_buildF (cells := [_, _, _, _, _, _, _, _, _, _, _, _, _, _, _, _, _, _, _, _, _, _, _, _, _]) bz36 rfl rfl rfl rfl rfl) ?_
  refine RW.call rfl call10 rfl rfl (put_spec hd hst (it := it4) (vh := .slice none 0 0) (RdH.srcH (RdH.nil _) _) (Nat.zero_le _) (by unfold i64ok; decide)) ?_
  rintro e w ⟨I3, v', Lt2, hI3, rfl, hstn, hd2⟩
  clear hst
  have hst := hstn
  clear hstn
  replace hle := hle.trans hI3
  refine ⟨_, rfl, ?_⟩
  refine RW.done ?_
  refine AQ.next ?_
  refine CW.seq ?_
  -- region 5
  refine CW.region ?_
  refine RW.op1 rfl (runs_move rfl) ?_
  refine RW.call rfl call11 rfl rfl (next_spec hd2 hst) ?_
  rintro e w ⟨rfl, hstn⟩
  clear hst
  have hst := hstn
  clear hstn
  refine ⟨_, rfl, ?_⟩
  refine RW.op1 rfl (runs_eqI rfl rfl) ?_
  refine RW.op1 rfl (runs_move rfl) ?_
  have hk16 := (show decide (nextR 1 it4.id = 5) = true from by rw [nextR_of (by unfold i64ok; decide)]; decide)
  refine RW.on_guard rfl rfl rfl rfl hk16 ?_
  refine RW.op1 rfl (runs_move rfl) ?_
  refine RW.on_guard rfl rfl rfl rfl hk16 ?_
  refine RW.call rfl call12 rfl rfl (ids_spec hd2 hst (show 1 ≤ 1000000 by decide)) ?_
  rintro e w ⟨I5, v18, hI5, rfl, hstn, hv18⟩
  clear hst
  have hst := hstn
  clear hstn
  rw [show it4.id = 4 from rfl, keys4] at hv18
  replace hle := hle.trans hI5
  refine ⟨_, rfl, ?_⟩
  refine RW.on_guard rfl rfl rfl rfl hk16 ?_
  refine RW.opE rfl (runs_lit1R Try.underlying22 ti3 (by decide) rfl rfl rfl (by simp [Value.oneCell']) hst) ?_
  rintro u6 w ⟨I6, hI6, hstn, h6⟩
  clear hst
  have hst := hstn
  clear hstn
  replace hv18 := hv18.mono hI6
  replace hle := hle.trans hI6
  have hv19 : RdI _ u6 [4] := h6
  refine RW.on_guard rfl rfl rfl rfl hk16 ?_
  refine RW.call rfl call24 rfl rfl (sameI_spec hst hv18 hv19 (by decide)) ?_
  rintro e w ⟨rfl, hstn⟩
  clear hst
  have hst := hstn
  clear hstn
  refine ⟨_, rfl, ?_⟩
  refine RW.op1 rfl (runs_pick_true rfl hk16 rfl) ?_
  refine RW.op1 rfl (runs_assign rfl) ?_
  refine RW.done ?_
  refine AQ.next ?_
  refine CW.ret ?_
  refine AQ.ret1 rfl rfl ?_
  exact ⟨rfl, _, hle, hst.sub (List.sublist_append_right _ _)⟩
theorem pput_map {α β : Type} (g : α → β) (rows : List (Int × α)) (k : Int) (v : α) : (pput rows k v).map (fun r => (r.1, g r.2)) = pput (rows.map fun r => (r.1, g r.2)) k (g v) := by
  induction rows with
  | nil => rfl
  | cons p r ih =>
    obtain ⟨a, u⟩ := p
    rw [List.map_cons]
    unfold pput
    split
    · rfl
    · rw [List.map_cons, ih]
theorem pdel_map {α β : Type} (g : α → β) (rows : List (Int × α)) (k : Int) : (pdel rows k).map (fun r => (r.1, g r.2)) = pdel (rows.map fun r => (r.1, g r.2)) k := by
  induction rows with
  | nil => rfl
  | cons p r ih =>
    obtain ⟨a, u⟩ := p
    rw [List.map_cons]
    unfold pdel
    split
    · rfl
    · rw [List.map_cons, ih]
theorem pget_map {α β : Type} (g : α → β) (rows : List (Int × α)) (k : Int) : pget (rows.map fun r => (r.1, g r.2)) k = (pget rows k).map g := by
  induction rows with
  | nil => rfl
  | cons p r ih =>
    obtain ⟨a, u⟩ := p
    rw [List.map_cons]
    unfold pget
    split
    · rfl
    · exact ih
theorem pdel_none {α : Type} {rows : List (Int × α)} {k : Int} (h : pget rows k = none) : pdel rows k = rows := by
  induction rows with
  | nil => rfl
  | cons p r ih =>
    obtain ⟨a, u⟩ := p
    unfold pget at h
    unfold pdel
    by_cases e : k = a
    · rw [if_pos e] at h; cases h
    · rw [if_neg e] at h ⊢; rw [ih h]
/-- What stands in a table, and in the list of the last ones. -/
def tils (rows : List TRow) : List (Int × Int) := rows.map fun r => (r.1, r.2.1.til)
theorem tils_put (rows : List TRow) (k : Int) (it : It) (v : Value) : tils (pput rows k (it, v)) = pput (tils rows) k it.til := pput_map (fun p : It × Value => p.1.til) rows k (it, v)
theorem tils_del (rows : List TRow) (k : Int) : tils (pdel rows k) = pdel (tils rows) k := pdel_map (fun p : It × Value => p.1.til) rows k
theorem tils_get (rows : List TRow) (k : Int) : pget (tils rows) k = (pget rows k).map fun p => p.1.til := pget_map (fun p : It × Value => p.1.til) rows k
theorem tils_len (rows : List TRow) : (tils rows).length = rows.length := List.length_map _
theorem keysUp_len {α : Type} (rows : List (Int × α)) : (keysUp rows).length = rows.length := by unfold keysUp; rw [List.length_mergeSort, List.length_map]
theorem keysUp_mem {α : Type} (rows : List (Int × α)) (k : Int) : k ∈ keysUp rows ↔ k ∈ rows.map Prod.fst := by unfold keysUp; exact List.mem_mergeSort
theorem keysUp_lt {α : Type} {rows : List (Int × α)} (hn : (rows.map Prod.fst).Nodup) : (keysUp rows).Pairwise (· < ·) := by
  have h1 : (keysUp rows).Pairwise fun a b => decide (a ≤ b) = true := List.pairwise_mergeSort (fun a b c h1 h2 => by simp only [decide_eq_true_eq] at *; omega) (fun a b => by simp only [Bool.or_eq_true, decide_eq_true_eq]; omega) _
  have h2 : (keysUp rows).Nodup := (List.mergeSort_perm _ _).nodup_iff.2 hn
  refine (List.Pairwise.and h1 h2).imp ?_
  rintro a b ⟨h, hne⟩
  simp only [decide_eq_true_eq] at h
  omega
theorem iat_mem {l : List Int} {k : Nat} (hk : k < l.length) : iat l (k : Int) ∈ l := by
  unfold iat
  rw [Int.toNat_natCast, List.getD_eq_getElem?_getD, List.getElem?_eq_getElem hk]
  exact List.getElem_mem hk
theorem was_lt {l : List Int} (h : l.Pairwise (· < ·)) (h0 : ∀ x ∈ l, 0 < x) {k : Nat} (hk : k < l.length) : (0 :: l).getD k 0 < iat l (k : Int) := by
  cases k with
  | zero => exact h0 _ (iat_mem hk)
  | succ j =>
    unfold iat
    rw [Int.toNat_natCast, List.getD_eq_getElem?_getD, List.getD_eq_getElem?_getD, List.getElem?_cons_succ, List.getElem?_eq_getElem hk, List.getElem?_eq_getElem (by omega)]
    exact List.pairwise_iff_getElem.1 h j (j + 1) (by omega) hk (by omega)
def itL (id i : Int) : It := { zeroIt with id := id, til := i }
def rendI (LR : List (Int × Int)) : List (Int × Value) := rend (Value.int .i64) LR
theorem rendI_get (LR : List (Int × Int)) (k : Int) : mget (rendI LR) k = (pget LR k).map (Value.int .i64) := mget_rend LR k
theorem rendI_put (LR : List (Int × Int)) (k v : Int) : mput (rendI LR) k (.int .i64 v) = rendI (pput LR k v) := mput_rend (g := Value.int .i64) LR k v
theorem rendI_del (LR : List (Int × Int)) (k : Int) : mdel (rendI LR) k = rendI (pdel LR k) := mdel_rend LR k
theorem rendI_len (LR : List (Int × Int)) : (rendI LR).length = LR.length := rend_len LR
theorem most_next {most id : Int} (h : i64ok (id + 1)) : nextR (most + 1) id = (if id > most then id else most) + 1 := by rw [nextR_of h]; split <;> split <;> omega
structure LastI (rows : List TRow) (most : Int) : Prop where
  keys : ∀ r ∈ rows, 1 ≤ r.1 ∧ r.1 ≤ 7
  m0 : 0 ≤ most ∧ most ≤ 7
theorem up_len : ∀ (l : List Int) (a b : Int), l.Pairwise (· < ·) → (∀ x ∈ l, a ≤ x ∧ x ≤ b) → (l.length : Int) ≤ 0 ∨ (l.length : Int) ≤ b - a + 1
  | [], _, _, _, _ => .inl (by simp)
  | x :: r, a, b, hp, h => by
    have hx := h x (List.mem_cons_self ..)
    rw [List.pairwise_cons] at hp
    have ih := up_len r (x + 1) b hp.2 (fun y hy => ⟨by have := hp.1 y hy; omega, (h y (List.mem_cons_of_mem _ hy)).2⟩)
    rw [List.length_cons]
    omega
theorem small_len {α : Type} {rows : List (Int × α)} (hn : (rows.map Prod.fst).Nodup) (hk : ∀ r ∈ rows, 1 ≤ r.1 ∧ r.1 ≤ 7) : rows.length ≤ 7 := by
  have h := up_len (keysUp rows) 1 7 (keysUp_lt hn) (fun x hx => by
    rw [keysUp_mem] at hx
    obtain ⟨r, hr, rfl⟩ := List.mem_map.1 hx
    exact hk r hr)
  rw [keysUp_len] at h
  omega
set_option maxRecDepth 100000 in
set_option maxHeartbeats 4000000 in
theorem last_spec {w0 w : World} {I : Imm} {L : Own} (hst : St w0 w I L) {vi : Value} {ls : List Int} (hl : RdI I vi ls) (hls : ∀ x ∈ ls, i64ok x) :
    Calls Try.prog 3 #[vi] w fun e w' => e = .returned (.bool true) ∧ ∃ I', I.le I' ∧ St w0 w' I' L := by
  refine enter Try.func3 rfl (N := 124) rfl rfl ?_
  simp only [List.zipIdx_cons, List.zipIdx_nil, List.map_cons, List.map_nil, Nat.zero_add, Nat.reduceAdd]
  have hle := Imm.le.refl I
  refine CW.seq ?_
  -- region 0
  refine CW.region ?_
  refine RW.op1 rfl (runs_assign rfl) ?_
  refine RW.done ?_
  refine AQ.next ?_
  refine CW.seq ?_
  -- region 1
  refine CW.region ?_
  refine RW.call rfl call7 rfl rfl (new_spec hst) ?_
  rintro e w ⟨bT, Lt, rfl, hstn, hd⟩
  clear hst
  have hst := hstn
  clear hstn
  refine ⟨_, rfl, ?_⟩
  refine RW.op1 rfl (runs_assign rfl) ?_
  refine RW.done ?_
  refine AQ.next ?_
  refine CW.seq ?_
  refine CW.seq ?_
  -- region 2
  refine CW.region ?_
  refine RW.op1 rfl (runs_move rfl) ?_
  refine RW.op1 rfl (runs_eq_nilptr Try.underlying23 rfl) ?_
  refine RW.done ?_
  refine AQ.next ?_
  refine CW.cond rfl (fun hc => absurd hc (by simp)) (fun hc => ?_)
  refine CW.skip ?_
  refine AQ.next ?_
  refine CW.seq ?_
  -- region 4
  refine CW.region ?_
  refine RW.opE rfl (runs_makeMap hst) ?_
  rintro _ w ⟨b2, rfl, hstn⟩
  clear hst
  have hst := hstn
  clear hstn
  replace hst := hst.perm (List.perm_middle (l₁ := Lt)).symm
  refine RW.op1 rfl (runs_assign rfl) ?_
  refine RW.done ?_
  refine AQ.next ?_
  refine CW.seq ?_
  -- region 5
  refine CW.region ?_
  refine RW.op1 rfl (runs_assign rfl) ?_
  refine RW.done ?_
  refine AQ.next ?_
  refine CW.seq ?_
  refine CW.seq ?_
  -- region 6
  refine CW.region ?_
  refine RW.op1 rfl (runs_assign rfl) ?_
  refine RW.done ?_
  refine AQ.next ?_
  refine CW.block ?_
  -- loop 1
  refine CW.loop (Nat × Imm × List TRow × Own × Obj × Int) (fun x w => (I.le x.2.1 ∧ RdI x.2.1 vi ls ∧ TbO x.2.1 x.2.2.1 (x.2.2.2.2.2 + 1) bT x.2.2.2.1 ∧ MapR kI x.2.2.2.2.1 (rendI (tils x.2.2.1)) ∧ LastI x.2.2.1 x.2.2.2.2.2 ∧ St w0 w x.2.1 (x.2.2.2.1 ++ ((b2, x.2.2.2.2.1) :: L))) ∧ x.1 ≤ ls.length ∧ x.1 ≤ 40) (fun x => [(0, vi), (3, .pointer (some ⟨bT, 0, none⟩)), (4, .map (some b2)), (5, .int .i64 x.2.2.2.2.2), (6, .int .i64 (x.1 : Int))]) (fun x => 40 - x.1) ⟨(0, _, [], Lt, _, 0), ⟨⟨hle, hl, hd, MapR.empty kI, ⟨by simp, (show (0 : Int) ≤ 0 ∧ (0 : Int) ≤ 7 by decide)⟩, hst⟩, Nat.zero_le _, Nat.zero_le _⟩, ⟨rfl, rfl, rfl, rfl, rfl, trivial⟩⟩ ?_
  clear hle hl hd
  rintro ⟨i, J, rows, Lt, o, most⟩ w ⟨⟨hle, hl, hd, hm, hli, hstn⟩, hi1, hi2⟩
  dsimp only at hle hl hd hm hli hstn hi1 hi2 ⊢
  clear hst
  have hst := hstn
  clear hstn
  refine CW.seq ?_
  refine CW.seq ?_
  -- region 7
  refine CW.cut Unit (fun _ w => St w0 w J (Lt ++ ((b2, o) :: L))) (fun _ => [(0, vi), (3, .pointer (some ⟨bT, 0, none⟩)), (4, .map (some b2)), (5, .int .i64 most), (6, .int .i64 (i : Int)), (28, .bool (decide (i < ls.length ∧ i < 40)))]) ?_ ?_
  · -- region 7
    refine CW.region ?_
    refine RW.op1 rfl (runs_move rfl) ?_
    refine RW.op1 rfl (runs_move rfl) ?_
    refine RW.op1 rfl (RdL.len Try.underlying22 rfl hl) ?_
    refine RW.op1 rfl (runs_lss rfl rfl) ?_
    refine RW.op1 rfl (runs_move rfl) ?_
    refine RW.split (t := 25) rfl (fun hb25 => ?_) (fun hb25 => ?_)
    · have hb25p := hb25
      try simp only [decide_eq_true_eq, decide_eq_false_iff_not] at hb25p
      refine RW.on_guard rfl rfl rfl rfl hb25 ?_
      refine RW.op1 rfl (runs_move rfl) ?_
      refine RW.on_guard rfl rfl rfl rfl hb25 ?_
      refine RW.op1 rfl (runs_lss rfl rfl) ?_
      refine RW.op1 rfl (runs_pick_true rfl hb25 rfl) ?_
      refine RW.done ?_
      exact AQ.meet () hst ⟨rfl, rfl, rfl, rfl, rfl, boolN (by simp only [decide_eq_true_eq, Bool.false_eq_true, false_iff]; omega), trivial⟩
    · have hb25p := hb25
      try simp only [decide_eq_true_eq, decide_eq_false_iff_not] at hb25p
      refine RW.off_guard rfl rfl rfl rfl hb25 ?_
      refine RW.off_guard rfl rfl rfl rfl hb25 ?_
      refine RW.op1 rfl (runs_pick_false rfl hb25 rfl) ?_
      refine RW.done ?_
      exact AQ.meet () hst ⟨rfl, rfl, rfl, rfl, rfl, boolN (by simp only [decide_eq_true_eq, Bool.false_eq_true, false_iff]; omega), trivial⟩
  · rintro _ w hstn
    clear hst
    have hst := hstn
    clear hstn
    refine AQ.next ?_
    refine CW.cond rfl (fun hc28 => ?_) (fun hc28 => ?_)
    · have hcb28 := hc28
      try simp only [decide_eq_true_eq, decide_eq_false_iff_not] at hc28
      have h28 : i < ls.length ∧ i < 40 := of_decide_eq_true hcb28
      obtain ⟨x, hx⟩ : ∃ x, iat ls (i : Int) = x := ⟨_, rfl⟩
      have hxo : i64ok x := hls x (by rw [← hx]; exact iat_mem (by omega))
      refine CW.skip ?_
      refine AQ.next ?_
      refine CW.seq ?_
      refine CW.block ?_
      refine CW.seq ?_
      -- region 9
      refine CW.region ?_
      refine RW.op1 rfl (runs_move rfl) ?_
      refine RW.op1 rfl (runs_move rfl) ?_
      first
        | refine RW.op1 rfl (RdL.indexAddr Try.underlying22 ti3 (by decide) rfl rfl (by assumption) (by omega)) ?_
        | refine RW.op1 rfl (runs_indexAddr0 Try.underlying22 ti3 rfl rfl (by omega)) ?_
      first
        | refine RW.op1 rfl (runs_load1 sc3 rfl (hst.cell_imm (RdI.at (by assumption) (by omega) (by omega)))) ?_
        | refine RW.op1 rfl (runs_load1 sc3 rfl (hst.cell_own (k := 0) rfl rfl)) ?_
        | refine RW.op1 rfl (runs_load1 sc3 rfl (hst.cell_own (k := 1) rfl rfl)) ?_
        | refine RW.op1 rfl (runs_load1 sc3 rfl (hst.cell_own (k := 2) rfl rfl)) ?_
      refine RW.call rfl call8 rfl rfl (within_spec hst (v := iat ls (i : Int)) (n := 7) (by rw [hx]; exact hxo) (by unfold i64ok; decide)) ?_
      rintro e w ⟨rfl, hstn⟩
      clear hst
      have hst := hstn
      clear hstn
      rw [hx]
      have q0 := within_range x 7
      have q1 := q0.2 (by decide)
      generalize within x 7 = q at q0 q1 ⊢
      refine ⟨_, rfl, ?_⟩
      refine RW.op1 rfl (runs_add rfl rfl (by omega)) ?_
      obtain ⟨id, hid⟩ : ∃ y, 1 + q = y := ⟨_, rfl⟩
      rw [hid]
      have hid1 : 1 ≤ id ∧ id ≤ 7 := by omega
      have hnd : (rows.map Prod.fst).Nodup := by obtain ⟨_, _, _, _, h, _⟩ := hd; exact h
      have hsz := small_len hnd hli.keys
      refine RW.op1 rfl (runs_assign rfl) ?_
      refine RW.done ?_
      refine AQ.next ?_
      refine CW.seq ?_
      refine CW.seq ?_
      -- region 10
      refine CW.region ?_
      refine RW.op1 rfl (runs_move rfl) ?_
      refine RW.op1 rfl (runs_move rfl) ?_
      first
        | refine RW.op1 rfl (RdL.indexAddr Try.underlying22 ti3 (by decide) rfl rfl (by assumption) (by omega)) ?_
        | refine RW.op1 rfl (runs_indexAddr0 Try.underlying22 ti3 rfl rfl (by omega)) ?_
      first
        | refine RW.op1 rfl (runs_load1 sc3 rfl (hst.cell_imm (RdI.at (by assumption) (by omega) (by omega)))) ?_
        | refine RW.op1 rfl (runs_load1 sc3 rfl (hst.cell_own (k := 0) rfl rfl)) ?_
        | refine RW.op1 rfl (runs_load1 sc3 rfl (hst.cell_own (k := 1) rfl rfl)) ?_
        | refine RW.op1 rfl (runs_load1 sc3 rfl (hst.cell_own (k := 2) rfl rfl)) ?_
      refine RW.op1 rfl (runs_rem rfl rfl (by decide)) ?_
      refine RW.op1 rfl (runs_eqI rfl rfl) ?_
      refine RW.done ?_
      refine AQ.next ?_
      refine CW.cut (Imm × List TRow × Own × Obj × Int) (fun y w => I.le y.1 ∧ RdI y.1 vi ls ∧ TbO y.1 y.2.1 (y.2.2.2.2 + 1) bT y.2.2.1 ∧ MapR kI y.2.2.2.1 (rendI (tils y.2.1)) ∧ LastI y.2.1 y.2.2.2.2 ∧ St w0 w y.1 (y.2.2.1 ++ ((b2, y.2.2.2.1) :: L))) (fun y => [(0, vi), (3, .pointer (some ⟨bT, 0, none⟩)), (4, .map (some b2)), (5, .int .i64 y.2.2.2.2), (6, .int .i64 (i : Int))]) ?_ ?_
      · refine CW.cond rfl (fun hc42 => ?_) (fun hc42 => ?_)
        · have hcb42 := hc42
          try simp only [decide_eq_true_eq, decide_eq_false_iff_not] at hc42
          refine CW.seq ?_
          -- region 11
          refine CW.region ?_
          refine RW.op1 rfl (runs_move rfl) ?_
          refine RW.op1 rfl (runs_move rfl) ?_
          refine RW.op1 rfl (runs_lookupOk (i := Lt.length) (keyI Try.underlying3) Try.underlying25 ti3 rfl rfl hst (get_midC _ _ _) hm) ?_
          obtain ⟨hs, hhs⟩ : ∃ b, (pget rows id).isSome = b := ⟨_, rfl⟩
          rw [show (mget (rendI (tils rows)) id).isSome = hs by rw [rendI_get, Option.isSome_map, tils_get, Option.isSome_map]; exact hhs]
          refine RW.op1 rfl (runs_move rfl) ?_
          refine RW.op1 rfl (runs_extract rfl rfl) ?_
          refine RW.op1 rfl (runs_extract rfl rfl) ?_
          refine RW.op1 rfl (runs_assign rfl) ?_
          refine RW.op1 rfl (runs_assign rfl) ?_
          refine RW.done ?_
          refine AQ.next ?_
          refine CW.seq ?_
          refine CW.seq ?_
          -- region 12
          refine CW.region ?_
          refine RW.op1 rfl (runs_move rfl) ?_
          refine RW.op1 rfl (runs_move rfl) ?_
          refine RW.call rfl call9 rfl rfl (drop_spec hd hst id) ?_
          rintro e w ⟨Lt1, rfl, hstn, hd2⟩
          clear hst
          have hst := hstn
          clear hstn
          rw [hhs]
          refine ⟨_, rfl, ?_⟩
          refine RW.op1 rfl (runs_move rfl) ?_
          refine RW.op1 rfl (runs_neB Try.underlying4 rfl rfl) ?_
          refine RW.op1 rfl (runs_move rfl) ?_
          have hk54 := (nbeq hs)
          refine RW.on_guard rfl rfl rfl rfl hk54 ?_
          refine RW.op1 rfl (runs_move rfl) ?_
          refine RW.on_guard rfl rfl rfl rfl hk54 ?_
          refine RW.op1 rfl (runs_move rfl) ?_
          refine RW.on_guard rfl rfl rfl rfl hk54 ?_
          refine RW.call rfl call9 rfl rfl (drop_spec hd2 hst id) ?_
          rintro e w ⟨Lt3, rfl, hstn, hd3⟩
          clear hst
          have hst := hstn
          clear hstn
          have hg0 : pget (pdel rows id) id = none := by rw [pget_del hnd, if_pos rfl]
          rw [hg0]
          rw [pdel_none hg0] at hd3
          refine ⟨_, rfl, ?_⟩
          refine RW.op1 rfl (runs_pick_false rfl hk54 rfl) ?_
          refine RW.done ?_
          refine AQ.next ?_
          refine CW.cond rfl (fun hc => absurd hc (by decide)) (fun hc => ?_)
          refine CW.skip ?_
          refine AQ.next ?_
          -- region 14
          refine CW.region ?_
          refine RW.op1 rfl (runs_move rfl) ?_
          refine RW.op1 rfl (runs_move rfl) ?_
          refine RW.opE0v (runs_delete (i := Lt3.length) (keyI Try.underlying3) Try.underlying25 rfl rfl hst (get_midC _ _ _) hm) ?_
          rintro u w ⟨o14, hstn, hm14⟩
          clear hst
          have hst := hstn
          clear hstn
          rw [set_midC] at hst
          refine RW.done ?_
          first
            | exact AQ.meet (J, pdel rows id, Lt3, o14, most) ⟨hle, hl, hd3, by dsimp only; rw [tils_del, ← rendI_del]; exact hm14, ⟨fun r hr => hli.keys r (pdel_mem hr), hli.m0⟩, hst⟩ ⟨rfl, rfl, rfl, rfl, rfl, trivial⟩
            | exact AQ.meet (_, pput rows id (itL id i, v'), Lt2, o16, if id > most then id else most) ⟨hle, hl, by dsimp only; rw [← most_next (by unfold i64ok; omega)]; exact hd2, by dsimp only; rw [tils_put, ← rendI_put]; exact hm16, ⟨fun r hr => (pput_mem hr).elim (fun h => by rw [h]; exact hid1) (hli.keys r), by have := hli.m0; dsimp only; split <;> omega⟩, hst⟩ ⟨rfl, rfl, rfl, rfl, rfl, trivial⟩
        · have hcb42 := hc42
          try simp only [decide_eq_true_eq, decide_eq_false_iff_not] at hc42
          refine CW.seq ?_
          -- region 15
          refine CW.region ?_
          refine RW.op1 rfl (runs_move rfl) ?_
          refine RW.op1 rfl (runs_move rfl) ?_
          refine RW.op1 rfl (runs_move rfl) ?_
          refine RW.op1 rfl (runs_buildF (cells := [_, _, _, _, _, _, _, _, _, _, _, _, _, _, _, _, _, _, _, _, _, _, _, _, _]) bz36 rfl rfl rfl rfl rfl) ?_
          refine RW.call rfl call10 rfl rfl (put_spec hd hst (it := itL id i) (vh := .slice none 0 0) (RdH.srcH (RdH.nil _) _) (Nat.zero_le _) (by unfold i64ok; show _ ≤ id ∧ id ≤ _; omega)) ?_
          rintro e w ⟨J65, v', Lt2, hJ65, rfl, hstn, hd2⟩
          clear hst
          have hst := hstn
          clear hstn
          replace hl := hl.mono hJ65
          replace hd := hd.mono hJ65
          replace hle := hle.trans hJ65
          refine ⟨_, rfl, ?_⟩
          refine RW.done ?_
          refine AQ.next ?_
          -- region 16
          refine CW.region ?_
          refine RW.op1 rfl (runs_move rfl) ?_
          refine RW.op1 rfl (runs_move rfl) ?_
          refine RW.op1 rfl (runs_move rfl) ?_
          refine RW.op1 rfl (runs_move rfl) ?_
          refine RW.op1 rfl (runs_move rfl) ?_
          refine RW.op1 rfl (runs_max rfl rfl) ?_
          refine RW.opE0 (runs_mapUpdate (i := Lt2.length) (keyI Try.underlying3) Try.underlying25 rfl rfl rfl hst (get_midC _ _ _) hm) ?_
          rintro w ⟨o16, hstn, hm16⟩
          clear hst
          have hst := hstn
          clear hstn
          refine RW.op1 rfl (runs_assign rfl) ?_
          rw [set_midC] at hst
          refine RW.done ?_
          first
            | exact AQ.meet (J, pdel rows id, Lt3, o14, most) ⟨hle, hl, hd3, by dsimp only; rw [tils_del, ← rendI_del]; exact hm14, ⟨fun r hr => hli.keys r (pdel_mem hr), hli.m0⟩, hst⟩ ⟨rfl, rfl, rfl, rfl, rfl, trivial⟩
            | exact AQ.meet (_, pput rows id (itL id i, v'), Lt2, o16, if id > most then id else most) ⟨hle, hl, by dsimp only; rw [← most_next (by unfold i64ok; omega)]; exact hd2, by dsimp only; rw [tils_put, ← rendI_put]; exact hm16, ⟨fun r hr => (pput_mem hr).elim (fun h => by rw [h]; exact hid1) (hli.keys r), by have := hli.m0; dsimp only; split <;> omega⟩, hst⟩ ⟨rfl, rfl, rfl, rfl, rfl, trivial⟩
      · clear hle hl hd hst hm hli hnd hsz
        rintro ⟨J2, rows2, Lt2, o2, most2⟩ w ⟨hle, hl, hd, hm, hli, hst⟩
        dsimp only at hle hl hd hm hli hst ⊢
        have hnd : (rows2.map Prod.fst).Nodup := by obtain ⟨_, _, _, _, h, _⟩ := hd; exact h
        have hsz := small_len hnd hli.keys
        have hmo := hli.m0
        refine AQ.next ?_
        refine CW.seq ?_
        -- region 17
        refine CW.region ?_
        refine RW.op1 rfl (runs_move rfl) ?_
        refine RW.call rfl call11 rfl rfl (next_spec hd hst) ?_
        rintro e w ⟨rfl, hstn⟩
        clear hst
        have hst := hstn
        clear hstn
        refine ⟨_, rfl, ?_⟩
        refine RW.op1 rfl (runs_move rfl) ?_
        refine RW.op1 rfl (runs_add rfl rfl (by omega)) ?_
        refine RW.op1 rfl (runs_neI rfl rfl) ?_
        refine RW.op1 rfl (runs_move rfl) ?_
        have hk77 := (neSelf (most2 + 1))
        refine RW.on_guard rfl rfl rfl rfl hk77 ?_
        refine RW.op1 rfl (runs_move rfl) ?_
        refine RW.on_guard rfl rfl rfl rfl hk77 ?_
        refine RW.call rfl call12 rfl rfl (ids_spec hd hst (by omega)) ?_
        rintro e w ⟨J79, v79, hJ79, rfl, hstn, hv79⟩
        clear hst
        have hst := hstn
        clear hstn
        replace hl := hl.mono hJ79
        replace hd := hd.mono hJ79
        replace hle := hle.trans hJ79
        refine ⟨_, rfl, ?_⟩
        refine RW.on_guard rfl rfl rfl rfl hk77 ?_
        refine RW.op1 rfl (RdL.len Try.underlying22 rfl hv79) ?_
        refine RW.on_guard rfl rfl rfl rfl hk77 ?_
        refine RW.op1 rfl (runs_move rfl) ?_
        refine RW.on_guard rfl rfl rfl rfl hk77 ?_
        refine RW.op1 rfl (runs_lenM (i := Lt2.length) Try.underlying25 rfl hst (get_midC _ _ _) hm) ?_
        refine RW.on_guard rfl rfl rfl rfl hk77 ?_
        refine RW.op1 rfl (runs_neI rfl rfl) ?_
        refine RW.op1 rfl (runs_pick_false rfl hk77 rfl) ?_
        refine RW.done ?_
        refine AQ.next ?_
        refine CW.cond rfl (fun hc => absurd hc (by rw [keysUp_len, rendI_len, tils_len]; simp)) (fun hc => ?_)
        refine CW.skip ?_
        refine AQ.block_normal ?_
        refine AQ.next ?_
        -- region 8
        refine CW.region ?_
        refine RW.op1 rfl (runs_move rfl) ?_
        refine RW.op1 rfl (runs_add rfl rfl (by omega)) ?_
        refine RW.op1 rfl (runs_assign rfl) ?_
        refine RW.done ?_
        exact AQ.again (x := (i, J, rows, Lt, o, most)) (i + 1, _, rows2, Lt2, o2, most2) ⟨⟨hle, hl, hd, hm, hli, hst⟩, by dsimp only; omega, by dsimp only; omega⟩ ⟨rfl, rfl, rfl, rfl, rfl, trivial⟩ (by dsimp only; omega)
    · have hcb28 := hc28
      try simp only [decide_eq_true_eq, decide_eq_false_iff_not] at hc28
      skip
      refine CW.exit ?_
      refine AQ.past_exit ?_
      refine AQ.past_exit ?_
      refine AQ.block_hit ?_
      refine AQ.next ?_
      refine CW.seq ?_
      -- region 19
      refine CW.region ?_
      have hnd : (rows.map Prod.fst).Nodup := by obtain ⟨_, _, _, _, h, _⟩ := hd; exact h
      have hsz := small_len hnd hli.keys
      refine RW.op1 rfl (runs_assign rfl) ?_
      refine RW.done ?_
      refine AQ.next ?_
      refine CW.seq ?_
      refine CW.seq ?_
      -- region 20
      refine CW.region ?_
      refine RW.op1 rfl (runs_move rfl) ?_
      refine RW.call rfl call12 rfl rfl (ids_spec hd hst (by omega)) ?_
      rintro e w ⟨J86, v86, hJ86, rfl, hstn, hv86⟩
      clear hst
      have hst := hstn
      clear hstn
      have hkl := keysUp_len rows
      have hkp := keysUp_lt hnd
      have hkm := keysUp_mem rows
      generalize keysUp rows = ks at hv86 hkl hkp hkm
      replace hl := hl.mono hJ86
      replace hd := hd.mono hJ86
      replace hle := hle.trans hJ86
      refine ⟨_, rfl, ?_⟩
      refine RW.op1 rfl (RdL.len Try.underlying22 rfl hv86) ?_
      refine RW.op1 rfl (runs_move rfl) ?_
      refine RW.done ?_
      refine AQ.next ?_
      refine CW.block ?_
      -- loop 2
      refine CW.loop Nat (fun k w => St w0 w J86 (Lt ++ ((b2, o) :: L)) ∧ k ≤ ks.length) (fun k => [(3, .pointer (some ⟨bT, 0, none⟩)), (4, .map (some b2)), (10, .int .i64 ((0 :: ks).getD k 0)), (86, v86), (87, .int .i64 (ks.length : Nat)), (88, .int .i64 (k : Int))]) (fun k => ks.length - k) ⟨0, ⟨hst, Nat.zero_le _⟩, ⟨rfl, rfl, rfl, rfl, rfl, rfl, trivial⟩⟩ ?_
      rintro k w ⟨hstn, hk⟩
      clear hst
      have hst := hstn
      clear hstn
      refine CW.seq ?_
      -- region 21
      refine CW.region ?_
      refine RW.op1 rfl (runs_lss rfl rfl) ?_
      refine RW.done ?_
      refine AQ.next ?_
      refine CW.seq ?_
      refine CW.cond rfl (fun hc89 => ?_) (fun hc89 => ?_)
      · have hcb89 := hc89
        try simp only [decide_eq_true_eq, decide_eq_false_iff_not] at hc89
        have hk1 : k < ks.length := by omega
        obtain ⟨id, hid⟩ : ∃ y, iat ks (k : Int) = y := ⟨_, rfl⟩
        have hin : id ∈ ks := by rw [← hid]; exact iat_mem hk1
        have hrow := (hkm id).1 hin
        have hwas := was_lt hkp (fun x hx => by
          obtain ⟨r, hr, rfl⟩ := List.mem_map.1 ((hkm x).1 hx)
          have := (hli.keys r hr).1
          omega) hk1
        rw [hid] at hwas
        obtain ⟨⟨it0, v0⟩, hp0⟩ : ∃ p, pget rows id = some p := by
          cases h : pget rows id with
          | none => exact absurd hrow (pget_none.1 h)
          | some p => exact ⟨p, rfl⟩
        refine CW.skip ?_
        refine AQ.next ?_
        refine CW.seq ?_
        refine CW.block ?_
        refine CW.seq ?_
        -- region 22
        refine CW.region ?_
        first
          | refine RW.op1 rfl (RdL.indexAddr Try.underlying22 ti3 (by decide) rfl rfl (by assumption) (by omega)) ?_
          | refine RW.op1 rfl (runs_indexAddr0 Try.underlying22 ti3 rfl rfl (by omega)) ?_
        refine RW.op1 rfl (runs_load1 sc3 rfl (hst.cell_imm (RdI.at hv86 (by omega) (by omega)))) ?_
        rw [hid]
        refine RW.op1 rfl (runs_assign rfl) ?_
        refine RW.done ?_
        refine AQ.next ?_
        refine CW.seq ?_
        -- region 23
        refine CW.region ?_
        refine RW.op1 rfl (runs_move rfl) ?_
        refine RW.op1 rfl (runs_move rfl) ?_
        refine RW.call rfl call13 rfl rfl (get_spec hd hst id) ?_
        rintro e w ⟨it, v95, Lv95, rfl, hstn, hv95, hg95, hl95, hit⟩
        clear hst
        have hst := hstn
        clear hstn
        replace hst := hst.sub (List.sublist_append_right _ _)
        rw [hp0] at hit ⊢
        obtain rfl : it0 = it := hit
        refine ⟨_, rfl, ?_⟩
        refine RW.op1 rfl (runs_move rfl) ?_
        refine RW.op1 rfl (runs_extract rfl rfl) ?_
        refine RW.op1 rfl (runs_extract rfl rfl) ?_
        refine RW.opE rfl (runs_alloc ti36 hst) ?_
        rintro _ w ⟨b12, rfl, hstn⟩
        clear hst
        have hst := hstn
        clear hstn
        refine RW.opE0 (runs_storeW ti36 rfl rfl hst (k := 0) rfl rfl rfl (NoFz.zero _) (it_one it0 hv95)) ?_
        rintro w hstn
        clear hst
        have hst := hstn
        clear hstn
        try simp only [List.set_cons_zero, List.set_cons_succ] at hst
        refine RW.op1 rfl (runs_assign rfl) ?_
        refine RW.done ?_
        refine AQ.next ?_
        refine CW.seq ?_
        refine CW.seq ?_
        -- region 24
        refine CW.region ?_
        refine RW.op1 rfl (runs_move rfl) ?_
        refine RW.op1 rfl (runs_move rfl) ?_
        refine RW.op1 rfl (runs_lookupOk (i := Lt.length + 1) (keyI Try.underlying3) Try.underlying25 ti3 rfl rfl hst (show (_ :: (Lt ++ (b2, o) :: L))[Lt.length + 1]? = some (b2, o) by simp) hm) ?_
        rw [show mget (rendI (tils rows)) id = some (.int .i64 it0.til) by rw [rendI_get, tils_get, hp0]; rfl]
        refine RW.op1 rfl (runs_move rfl) ?_
        refine RW.op1 rfl (runs_extract rfl rfl) ?_
        refine RW.op1 rfl (runs_extract rfl rfl) ?_
        refine RW.op1 rfl (runs_assign rfl) ?_
        refine RW.op1 rfl (runs_assign rfl) ?_
        refine RW.done ?_
        refine AQ.next ?_
        refine CW.seq ?_
        -- region 25
        refine CW.region ?_
        refine RW.op1 rfl (runs_move rfl) ?_
        refine RW.op1 rfl (runs_not rfl) ?_
        refine RW.op1 rfl (runs_move rfl) ?_
        have hk106 := (show (!true) = false from rfl)
        refine RW.on_guard rfl rfl rfl rfl hk106 ?_
        refine RW.op1 rfl (runs_move rfl) ?_
        refine RW.on_guard rfl rfl rfl rfl hk106 ?_
        refine RW.op1 rfl (runs_not rfl) ?_
        refine RW.op1 rfl (runs_pick_false rfl hk106 rfl) ?_
        refine RW.op1 rfl (runs_move rfl) ?_
        have hk110 := (show (!true) = false from rfl)
        refine RW.on_guard rfl rfl rfl rfl hk110 ?_
        first
          | refine RW.op1 rfl (runs_fieldAddr0 rfl Try.underlying36 rfl ti3 (by decide)) ?_
          | refine RW.op1 rfl (runs_fieldAddr rfl Try.underlying36 rfl ti3 (by decide)) ?_
        refine RW.on_guard rfl rfl rfl rfl hk110 ?_
        first
          | refine RW.op1 rfl (runs_load1 sc3 rfl (hst.cell_own (k := 0) rfl rfl)) ?_
          | refine RW.op1 rfl (runs_load1 sc3 rfl (hst.cell_own (k := 1) rfl rfl)) ?_
          | refine RW.op1 rfl (runs_load1 sc3 rfl (hst.cell_own (k := 2) rfl rfl)) ?_
        refine RW.on_guard rfl rfl rfl rfl hk110 ?_
        refine RW.op1 rfl (runs_move rfl) ?_
        refine RW.on_guard rfl rfl rfl rfl hk110 ?_
        refine RW.op1 rfl (runs_neI rfl rfl) ?_
        refine RW.op1 rfl (runs_pick_false rfl hk110 rfl) ?_
        refine RW.op1 rfl (runs_move rfl) ?_
        have hk116 := (neSelf it0.til)
        refine RW.on_guard rfl rfl rfl rfl hk116 ?_
        refine RW.op1 rfl (runs_move rfl) ?_
        refine RW.on_guard rfl rfl rfl rfl hk116 ?_
        refine RW.op1 rfl (runs_move rfl) ?_
        refine RW.on_guard rfl rfl rfl rfl hk116 ?_
        refine RW.op1 rfl (runs_geq rfl rfl) ?_
        refine RW.op1 rfl (runs_pick_false rfl hk116 rfl) ?_
        refine RW.done ?_
        refine AQ.next ?_
        refine CW.cond rfl (fun hc => absurd hc (by simp only [decide_eq_true_eq]; omega)) (fun hc => ?_)
        refine CW.skip ?_
        refine AQ.next ?_
        -- region 27
        refine CW.region ?_
        refine RW.op1 rfl (runs_move rfl) ?_
        refine RW.op1 rfl (runs_assign rfl) ?_
        refine RW.done ?_
        refine AQ.block_normal ?_
        refine AQ.next ?_
        -- region 28
        refine CW.region ?_
        refine RW.op1 rfl (runs_add rfl rfl (by omega)) ?_
        refine RW.op1 rfl (runs_move rfl) ?_
        refine RW.done ?_
        exact AQ.again (x := k) (k + 1) ⟨hst.drop1, by omega⟩ ⟨rfl, rfl, congrArg (fun z => some (Value.int .i64 z)) hid.symm, rfl, rfl, rfl, trivial⟩ (by omega)
      · have hcb89 := hc89
        try simp only [decide_eq_true_eq, decide_eq_false_iff_not] at hc89
        skip
        refine CW.exit ?_
        refine AQ.past_exit ?_
        refine AQ.past_exit ?_
        refine AQ.block_hit ?_
        refine AQ.next ?_
        refine CW.seq ?_
        -- region 29
        refine CW.region ?_
        refine RW.call rfl call14 rfl rfl (wakes18_spec hst) ?_
        rintro e w ⟨rfl, J123, hJ123, hstn⟩
        clear hst
        have hst := hstn
        clear hstn
        replace hd := hd.mono hJ123
        replace hv86 := hv86.mono hJ123
        replace hle := hle.trans hJ123
        refine ⟨_, rfl, ?_⟩
        refine RW.op1 rfl (runs_assign rfl) ?_
        refine RW.done ?_
        refine AQ.next ?_
        refine CW.ret ?_
        refine AQ.ret1 rfl rfl ?_
        exact ⟨rfl, _, hle, hst.dropF.drop1⟩
end Go.Proofs.YtlmmpcdjkpibcaaX
