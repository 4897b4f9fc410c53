/- A new disk; reading it: what these come to. -/
import Derived.Test.YthocicjjighbnaaT
import Derived.Test.YthocicjjighbnaaD1
namespace Go.Proofs.YthocicjjighbnaaX
set_option linter.unusedVariables false
set_option linter.unusedSimpArgs false
open Go Go.RowKit Go.Proofs

def newR (n : Int) : DS := ⟨List.replicate (if n ≤ 0 then 0 else if n ≥ 1024 then 1024 else n.toNat) (List.replicate 32 0), [], -1, false⟩
theorem newR_ok (n : Int) : DOk (newR n) := by
  refine ⟨?_, ?_, by simp [newR], by show -1 ≤ (-1 : Int) ∧ (-1 : Int) ≤ 9223372036854775807; decide⟩
  · simp only [newR, List.length_replicate]; (repeat' split) <;> omega
  · intro s hs
    simp only [newR] at hs
    rw [List.eq_of_mem_replicate hs, List.length_replicate]
theorem made_secs (n : Nat) : madeCells (Value.agg #[(.int .u8 0), (.int .u8 0), (.int .u8 0), (.int .u8 0), (.int .u8 0), (.int .u8 0), (.int .u8 0), (.int .u8 0), (.int .u8 0), (.int .u8 0), (.int .u8 0), (.int .u8 0), (.int .u8 0), (.int .u8 0), (.int .u8 0), (.int .u8 0), (.int .u8 0), (.int .u8 0), (.int .u8 0), (.int .u8 0), (.int .u8 0), (.int .u8 0), (.int .u8 0), (.int .u8 0), (.int .u8 0), (.int .u8 0), (.int .u8 0), (.int .u8 0), (.int .u8 0), (.int .u8 0), (.int .u8 0), (.int .u8 0)]).cells (n * 32) = ((List.replicate n (List.replicate 32 (0 : UInt8))).flatMap (·.map b8)).toArray := by
  have e1 : (List.replicate n (List.replicate 32 (0 : UInt8))).flatMap (·.map b8) = List.replicate (n * 32) (b8 0) := by
    rw [List.flatMap_replicate, List.map_replicate, List.flatten_replicate_replicate]
  rw [e1]
  unfold madeCells
  apply Array.ext
  · simp
  · intro i h1 h2
    have hi : i % 32 < 32 := Nat.mod_lt _ (by decide)
    simp only [List.getElem_toArray, List.getElem_replicate, Array.getElem_map, Array.getElem_range]
    show (#[(.int .u8 0), (.int .u8 0), (.int .u8 0), (.int .u8 0), (.int .u8 0), (.int .u8 0), (.int .u8 0), (.int .u8 0), (.int .u8 0), (.int .u8 0), (.int .u8 0), (.int .u8 0), (.int .u8 0), (.int .u8 0), (.int .u8 0), (.int .u8 0), (.int .u8 0), (.int .u8 0), (.int .u8 0), (.int .u8 0), (.int .u8 0), (.int .u8 0), (.int .u8 0), (.int .u8 0), (.int .u8 0), (.int .u8 0), (.int .u8 0), (.int .u8 0), (.int .u8 0), (.int .u8 0), (.int .u8 0), (.int .u8 0)] : Array Value)[i % 32]! = b8 0
    generalize i % 32 = k at hi
    match k, hi with
    | 0, _ => rfl
    | 1, _ => rfl
    | 2, _ => rfl
    | 3, _ => rfl
    | 4, _ => rfl
    | 5, _ => rfl
    | 6, _ => rfl
    | 7, _ => rfl
    | 8, _ => rfl
    | 9, _ => rfl
    | 10, _ => rfl
    | 11, _ => rfl
    | 12, _ => rfl
    | 13, _ => rfl
    | 14, _ => rfl
    | 15, _ => rfl
    | 16, _ => rfl
    | 17, _ => rfl
    | 18, _ => rfl
    | 19, _ => rfl
    | 20, _ => rfl
    | 21, _ => rfl
    | 22, _ => rfl
    | 23, _ => rfl
    | 24, _ => rfl
    | 25, _ => rfl
    | 26, _ => rfl
    | 27, _ => rfl
    | 28, _ => rfl
    | 29, _ => rfl
    | 30, _ => rfl
    | 31, _ => rfl
    | n + 32, h => exact absurd h (by omega)
theorem b8_zeros32 : ∀ u ∈ (List.replicate 32 (0 : UInt8)).map b8, u.oneCell' = true := b8_one _
set_option maxRecDepth 100000 in
set_option maxHeartbeats 1000000 in
theorem new_spec {w0 w : World} {I : Imm} {L : Own} (hst : St w0 w I L) (n : Int) :
    Calls Try.prog 9 #[.int .i64 n] w fun e w' => ∃ d Ld, e = .returned d ∧ d.oneCell' = true ∧ St w0 w' I (Ld ++ L) ∧ DiskO d (newR n) Ld ∧ ∃ a, d = .pointer (some a) := by
  refine enter Try.func9 rfl (N := 9) rfl rfl ?_
  simp only [List.zipIdx_cons, List.zipIdx_nil, List.map_cons, List.map_nil, Nat.zero_add, Nat.reduceAdd]
  have hle := Imm.le.refl I
  refine CW.seq ?_
  -- region 0
  refine CW.region ?_
  refine RW.op1 rfl (runs_assign rfl) ?_
  refine RW.done ?_
  refine AQ.next ?_
  refine CW.seq ?_
  -- region 1
  refine CW.region ?_
  refine RW.op1 rfl (runs_move rfl) ?_
  refine RW.op1 rfl (runs_max rfl rfl) ?_
  refine RW.op1 rfl (runs_min rfl rfl) ?_
  obtain ⟨m, hm, hm2⟩ : ∃ m : Nat, (if (1024 : Int) < (if n > 0 then n else 0) then 1024 else (if n > 0 then n else 0)) = (m : Int) ∧ m = (if n ≤ 0 then 0 else if n ≥ 1024 then 1024 else n.toNat) := ⟨if n ≤ 0 then 0 else if n ≥ 1024 then 1024 else n.toNat, by (repeat' split) <;> omega, rfl⟩
  rw [hm]
  have hm3 : m ≤ 1024 := by rw [hm2]; (repeat' split) <;> omega
  refine RW.opE rfl (runs_makeSlice (n := m) Try.underlying56 ti72 rfl hst (by omega) (by unfold maxLen; omega)) ?_
  rintro _ w ⟨b1, rfl, hstn⟩
  clear hst
  have hst := hstn
  clear hstn
  rw [made_secs] at hst
  refine RW.op1 rfl (runs_buildF (cells := [_, _, _, _]) bz59 rfl rfl rfl rfl rfl) ?_
  refine RW.opE rfl (runs_box rfl hst) ?_
  rintro _ w ⟨b2, rfl, hstn⟩
  clear hst
  have hst := hstn
  clear hstn
  refine RW.op1 rfl (runs_assign rfl) ?_
  refine RW.done ?_
  refine AQ.next ?_
  refine CW.ret ?_
  refine AQ.ret1 rfl rfl ?_
  have hS : (newR n).secs = List.replicate m (List.replicate 32 0) := by unfold newR; rw [hm2]
  have hlen : ((List.replicate m (List.replicate 32 (0 : UInt8))).flatMap (·.map b8)).length = m * 32 := by
    rw [List.flatMap_replicate, List.map_replicate, List.flatten_replicate_replicate, List.length_replicate]
  obtain ⟨Ld, h1, h2⟩ := DiskO.shut (S := newR n) (Lp := []) hst (Ls := [(b1, _)]) (vl := .slice (some ⟨b1, 0, none⟩) m m) ⟨by rw [hS]; rw [hlen, List.length_replicate], by
    intro u hu
    rw [hS] at hu
    obtain ⟨s, hs1, hs2⟩ := List.mem_flatMap.1 hu
    exact b8_one s u hs2, .inr ⟨b1, m, _, by rw [hS, List.length_replicate], rfl, by rw [hS, List.length_replicate]; exact Nat.le_refl _, by unfold maxLen; omega, by rw [List.size_toArray, hlen], by rw [hS, List.length_replicate]; exact List.take_of_length_le (by rw [hlen]; exact Nat.le_refl _)⟩⟩ (Grow.nil _ _) (newR_ok n)
  exact ⟨_, Ld, rfl, rfl, h1, h2, _, rfl⟩
set_option maxRecDepth 100000 in
set_option maxHeartbeats 1000000 in
theorem sclone_own {w0 w : World} {I : Imm} {L : Own} (hst : St w0 w I L) {v : Value} {bs : List UInt8} (hv : RdB I v bs) (hb : bs.length ≤ 140737488355328) :
    Calls Try.prog 49 #[v] w fun e w' => ∃ v' Lv, e = .returned v' ∧ St w0 w' I (Lv ++ L) ∧ GrowB 5 v' bs Lv := by
  have hv0 := hv
  obtain ⟨h1, h2, A, cap, rfl, h3, h4⟩ := hv0
  refine enter Try.func49 rfl (N := 8) rfl rfl ?_
  simp only [List.zipIdx_cons, List.zipIdx_nil, List.map_cons, List.map_nil, Nat.zero_add, Nat.reduceAdd]
  have hle := Imm.le.refl I
  refine CW.seq ?_
  -- region 0
  refine CW.region ?_
  refine RW.op1 rfl (runs_assign rfl) ?_
  refine RW.done ?_
  refine AQ.next ?_
  refine CW.seq ?_
  refine CW.seq ?_
  -- region 1
  refine CW.region ?_
  refine RW.op1 rfl (runs_move rfl) ?_
  refine RW.op1 rfl (runs_eq_nilslice Try.underlying33 rfl) ?_
  refine RW.done ?_
  refine AQ.next ?_
  refine CW.cond rfl (fun hc4 => ?_) (fun hc4 => ?_)
  · have hcb4 := hc4
    try simp only [decide_eq_true_eq, decide_eq_false_iff_not] at hc4
    refine CW.seq ?_
    -- region 2
    refine CW.region ?_
    refine RW.op1 rfl (runs_assign rfl) ?_
    refine RW.done ?_
    refine AQ.next ?_
    refine CW.ret ?_
    refine AQ.past_ret ?_
    refine AQ.ret1 rfl rfl ?_
    have : A = none := by simpa using hcb4
    subst this
    have h0 : bs = [] := by
      cases bs with
      | nil => rfl
      | cons c r => obtain ⟨a, h, _⟩ := h4 0 (b8 c) (by simp); cases h
    subst h0
    exact ⟨_, [], rfl, hst, GrowB.nil _⟩
  · have hcb4 := hc4
    try simp only [decide_eq_true_eq, decide_eq_false_iff_not] at hc4
    refine CW.skip ?_
    refine AQ.next ?_
    refine CW.seq ?_
    -- region 3
    refine CW.region ?_
    refine RW.opE rfl (runs_litB0 Try.underlying33 ti5 hst) ?_
    rintro u1 w ⟨Lv1, hstn, hg1⟩
    clear hst
    have hst := hstn
    clear hstn
    refine RW.op1 rfl (runs_move rfl) ?_
    refine RW.opE rfl (runs_appendB Try.underlying33 ti5 rfl rfl hst (by assumption) (by assumption) (by (try simp) <;> omega)) ?_
    rintro u2 w ⟨Lv2, hstn, hg2⟩
    clear hst
    have hst := hstn
    clear hstn
    refine RW.op1 rfl (runs_assign rfl) ?_
    refine RW.done ?_
    refine AQ.next ?_
    refine CW.ret ?_
    refine AQ.ret1 rfl rfl ?_
    exact ⟨_, _, rfl, hst, hg2⟩
theorem sclone_spec {w0 w : World} {I : Imm} {L : Own} (hst : St w0 w I L) {v : Value} {bs : List UInt8} (hv : RdB I v bs) (hb : bs.length ≤ 140737488355328) :
    Calls Try.prog 49 #[v] w fun e w' => ∃ I' v', Imm.le I I' ∧ e = .returned v' ∧ St w0 w' I' L ∧ RdB I' v' bs := by
  refine (sclone_own hst hv hb).mono fun e w' ⟨v', Lv, h1, h2, h3⟩ => ?_
  obtain ⟨I', hI, hst, hr⟩ := GrowB.freeze h3 h2
  exact ⟨I', v', hI, h1, hst, hr⟩
set_option maxRecDepth 100000 in
set_option maxHeartbeats 1000000 in
theorem read_own {w0 w : World} {I : Imm} {L Ld : Own} {d : Value} {S : DS} (hd : DiskO d S Ld) (hst : St w0 w I (Ld ++ L)) (at_ : Int) :
    Calls Try.prog 40 #[d, .int .i64 at_] w fun e w' => ∃ I' v' Lv, Imm.le I I' ∧ e = .returned (.tuple #[v', .int .i64 (mayR S at_)]) ∧ St w0 w' I' (Lv ++ (Ld ++ L)) ∧ GrowB 5 v' (if mayR S at_ = 0 then readR S at_ else []) Lv := by
  refine enter Try.func40 rfl (N := 41) rfl rfl ?_
  simp only [List.zipIdx_cons, List.zipIdx_nil, List.map_cons, List.map_nil, Nat.zero_add, Nat.reduceAdd]
  have hle := Imm.le.refl I
  refine CW.seq ?_
  -- region 0
  refine CW.region ?_
  refine RW.op1 rfl (runs_assign rfl) ?_
  refine RW.op1 rfl (runs_assign rfl) ?_
  refine RW.done ?_
  refine AQ.next ?_
  refine CW.seq ?_
  refine CW.seq ?_
  -- region 1
  refine CW.region ?_
  refine RW.op1 rfl (runs_move rfl) ?_
  refine RW.op1 rfl (runs_move rfl) ?_
  refine RW.call rfl call36 rfl rfl (dmay_spec hd hst at_) ?_
  rintro e w ⟨rfl, hstn⟩
  clear hst
  have hst := hstn
  clear hstn
  refine ⟨_, rfl, ?_⟩
  refine RW.op1 rfl (runs_assign rfl) ?_
  refine RW.done ?_
  refine AQ.next ?_
  refine CW.seq ?_
  -- region 2
  refine CW.region ?_
  refine RW.op1 rfl (runs_move rfl) ?_
  refine RW.op1 rfl (runs_neI rfl rfl) ?_
  refine RW.done ?_
  refine AQ.next ?_
  refine CW.cond rfl (fun hc14 => ?_) (fun hc14 => ?_)
  · have hcb14 := hc14
    try simp only [decide_eq_true_eq, decide_eq_false_iff_not] at hc14
    skip
    refine CW.seq ?_
    -- region 3
    refine CW.region ?_
    refine RW.op1 rfl (runs_move rfl) ?_
    refine RW.op1 rfl (runs_assign rfl) ?_
    refine RW.op1 rfl (runs_assign rfl) ?_
    refine RW.done ?_
    refine AQ.next ?_
    refine CW.ret ?_
    refine AQ.past_ret ?_
    refine AQ.ret2 rfl rfl rfl ?_
    exact ⟨I, _, [], Imm.le.refl I, rfl, hst, by rw [if_neg (by omega)]; exact GrowB.nil _⟩
  · have hcb14 := hc14
    try simp only [decide_eq_true_eq, decide_eq_false_iff_not] at hc14
    have hm0 : mayR S at_ = 0 := by omega
    obtain ⟨hdn, ha0, ha1⟩ := mayR_ok hm0
    obtain ⟨hb, vl, vp, Ls, Lp, rfl, hLd, hgl, hgp, hok⟩ := hd
    have hLL : Ld ++ L = (hb, .cells #[vl, vp, .int .i64 S.left, .bool S.down] 59) :: (Ls ++ (Lp ++ L)) := by rw [hLd]; simp only [List.cons_append, List.append_assoc]
    rw [hLL] at hst
    refine CW.skip ?_
    refine AQ.next ?_
    refine CW.seq ?_
    -- region 4
    refine CW.region ?_
    have hsl := sec_len hok ha0 ha1
    have hsg : S.secs[at_.toNat]? = some (S.secs.getD at_.toNat []) := by
      have hi : at_.toNat < S.secs.length := by omega
      rw [List.getD_eq_getElem?_getD, List.getElem?_eq_getElem hi]; rfl
    refine RW.op1 rfl (runs_move rfl) ?_
    refine RW.op1 rfl (runs_nilCheck rfl) ?_
    first
      | refine RW.op1 rfl (runs_fieldAddr0 rfl Try.underlying59 rfl ti56 (by decide)) ?_
      | refine RW.op1 rfl (runs_fieldAddr rfl Try.underlying59 rfl ti56 (by decide)) ?_
    first
      | refine RW.op1 rfl (runs_load1 sc56 rfl (hst.cell_own (k := 0) rfl rfl)) ?_
      | refine RW.op1 rfl (runs_load1 sc56 rfl (hst.cell_own (k := 1) rfl rfl)) ?_
      | refine RW.op1 rfl (runs_load1 sc56 rfl (hst.cell_own (k := 2) rfl rfl)) ?_
    refine RW.op1 rfl (runs_move rfl) ?_
    refine RW.op1 rfl (Grow.indexAddr Try.underlying56 ti72 hgl rfl rfl (by omega)) ?_
    refine RW.op1 rfl (Grow.loadAt (row := (S.secs.getD at_.toNat []).map b8) ag72 ti72 hgl rfl hst (fun p hp => by simp [hp]) (by rw [List.length_map]; exact hsl) (row_at (f := fun s : List UInt8 => s.map b8) (fun s hs => by rw [List.length_map]; exact hok.2.1 s hs) hsg)) ?_
    refine RW.opE rfl (runs_alloc ti72 hst) ?_
    rintro _ w ⟨b2, rfl, hstn⟩
    clear hst
    have hst := hstn
    clear hstn
    refine RW.opE0 (runs_storeW ti72 rfl rfl hst (k := 0) rfl (by rw [List.length_map]; exact hsl) rfl (NoFz.zero _) (b8_all _)) ?_
    rintro w hstn
    clear hst
    have hst := hstn
    clear hstn
    try simp only [List.set_cons_zero, List.set_cons_succ] at hst
    refine RW.done ?_
    refine AQ.next ?_
    refine CW.seq ?_
    refine CW.seq ?_
    -- region 5
    refine CW.region ?_
    refine RW.op1 rfl (runs_move rfl) ?_
    refine RW.op1 rfl (runs_nilCheck rfl) ?_
    first
      | refine RW.op1 rfl (runs_fieldAddr0 rfl Try.underlying59 rfl ti57 (by decide)) ?_
      | refine RW.op1 rfl (runs_fieldAddr rfl Try.underlying59 rfl ti57 (by decide)) ?_
    first
      | refine RW.op1 rfl (runs_load1 sc57 rfl (hst.cell_own (k := 0) rfl rfl)) ?_
      | refine RW.op1 rfl (runs_load1 sc57 rfl (hst.cell_own (k := 1) rfl rfl)) ?_
      | refine RW.op1 rfl (runs_load1 sc57 rfl (hst.cell_own (k := 2) rfl rfl)) ?_
    first
      | refine RW.op1 rfl (RdL.len Try.underlying57 rfl (by assumption)) ?_
      | refine RW.op1 rfl (runs_lenL Try.underlying57 rfl) ?_
      | refine RW.op1 rfl (Grow.len Try.underlying57 rfl (by assumption)) ?_
    refine RW.op1 rfl (runs_move rfl) ?_
    refine RW.done ?_
    refine AQ.next ?_
    refine CW.block ?_
    -- loop 1
    refine CW.loop Nat (fun k w => St w0 w I ((b2, .cells ((readTo S at_ k).map b8).toArray 72) :: (hb, .cells #[vl, vp, .int .i64 S.left, .bool S.down] 59) :: (Ls ++ (Lp ++ L))) ∧ k ≤ S.pend.length) (fun k => [(1, .int .i64 at_), (7, .pointer (some ⟨b2, 0, none⟩)), (26, vp), (27, .int .i64 (S.pend.length : Nat)), (28, .int .i64 (k : Int))]) (fun k => S.pend.length - k) ⟨0, ⟨hst, Nat.zero_le _⟩, ⟨rfl, rfl, rfl, rfl, rfl, trivial⟩⟩ ?_
    rintro k w ⟨hstn, hk⟩
    clear hst
    have hst := hstn
    clear hstn
    refine CW.seq ?_
    -- region 6
    refine CW.region ?_
    refine RW.op1 rfl (runs_lss rfl rfl) ?_
    refine RW.done ?_
    refine AQ.next ?_
    refine CW.seq ?_
    refine CW.cond rfl (fun hc29 => ?_) (fun hc29 => ?_)
    · have hcb29 := hc29
      try simp only [decide_eq_true_eq, decide_eq_false_iff_not] at hc29
      have hpn := Grow.lt hgp
      unfold maxLen at hpn
      have hk1 : k < S.pend.length := by omega
      obtain ⟨p, hp⟩ : ∃ p, S.pend[k] = p := ⟨_, rfl⟩
      have hp2 : S.pend[k]? = some p := by rw [List.getElem?_eq_getElem hk1, hp]
      obtain ⟨hpl, hpa⟩ := hok.2.2.1 p (List.mem_of_getElem? hp2)
      have hnx := readTo_next (a := at_) hp2
      refine CW.skip ?_
      refine AQ.next ?_
      refine CW.seq ?_
      refine CW.block ?_
      refine CW.seq ?_
      -- region 7
      refine CW.region ?_
      refine RW.op1 rfl (Grow.indexAddr Try.underlying57 ti74 hgp rfl rfl (by omega)) ?_
      refine RW.op1 rfl (Grow.loadAt (row := wrow p) ag74 ti74 hgp rfl hst (fun p hp => by simp [hp]) (wrow_len hpl) (row_at (f := wrow) (fun q hq => wrow_len (hok.2.2.1 q hq).1) hp2)) ?_
      refine RW.opE rfl (runs_alloc ti74 hst) ?_
      rintro _ w ⟨b4, rfl, hstn⟩
      clear hst
      have hst := hstn
      clear hstn
      refine RW.opE0 (runs_storeW ti74 rfl rfl hst (k := 0) rfl (wrow_len hpl) rfl (NoFz.zero _) (wrow_all _)) ?_
      rintro w hstn
      clear hst
      have hst := hstn
      clear hstn
      try simp only [List.set_cons_zero, List.set_cons_succ] at hst
      refine RW.done ?_
      refine AQ.next ?_
      refine CW.seq ?_
      -- region 8
      refine CW.region ?_
      first
        | refine RW.op1 rfl (runs_fieldAddr0 rfl Try.underlying74 rfl ti3 (by decide)) ?_
        | refine RW.op1 rfl (runs_fieldAddr rfl Try.underlying74 rfl ti3 (by decide)) ?_
      refine RW.op1 rfl (runs_load1 sc3 rfl (hst.cell_own (k := 0) (v := .int .i64 p.1) rfl rfl)) ?_
      refine RW.op1 rfl (runs_move rfl) ?_
      refine RW.op1 rfl (runs_eqI rfl rfl) ?_
      refine RW.done ?_
      refine AQ.next ?_
      refine CW.cond rfl (fun hc35 => ?_) (fun hc35 => ?_)
      · have hcb35 := hc35
        try simp only [decide_eq_true_eq, decide_eq_false_iff_not] at hc35
        rw [if_pos hc35] at hnx
        -- region 9
        refine CW.region ?_
        first
          | refine RW.op1 rfl (runs_fieldAddr0 rfl Try.underlying74 rfl ti72 (by decide)) ?_
          | refine RW.op1 rfl (runs_fieldAddr rfl Try.underlying74 rfl ti72 (by decide)) ?_
        refine RW.op1 rfl (runs_loadN (vs := p.2.map b8) ag72 ti72 rfl hst (k := 0) rfl (by show (p.2.map b8).take 32 = _; exact List.take_of_length_le (by rw [List.length_map]; omega)) (by rw [List.length_map]; exact hpl)) ?_
        refine RW.opE0 (runs_storeW ti72 rfl rfl hst (k := 1) rfl (by rw [List.length_map]; exact hpl) (by rw [List.size_toArray, List.length_map]; exact readTo_len hok ha0 ha1 k) (NoFz.zero _) (b8_all _)) ?_
        rintro w hstn
        clear hst
        have hst := hstn
        clear hstn
        try simp only [List.set_cons_zero, List.set_cons_succ] at hst
        refine RW.done ?_
        refine AQ.block_normal ?_
        refine AQ.next ?_
        -- region 10
        refine CW.region ?_
        refine RW.op1 rfl (runs_add rfl rfl (by omega)) ?_
        refine RW.op1 rfl (runs_move rfl) ?_
        refine RW.done ?_
        exact AQ.again (x := k) (k + 1) ⟨by rw [hnx]; exact hst.drop1, by omega⟩ ⟨rfl, rfl, rfl, rfl, rfl, trivial⟩ (by omega)
      · have hcb35 := hc35
        try simp only [decide_eq_true_eq, decide_eq_false_iff_not] at hc35
        rw [if_neg hc35] at hnx
        refine CW.skip ?_
        refine AQ.block_normal ?_
        refine AQ.next ?_
        -- region 10
        refine CW.region ?_
        refine RW.op1 rfl (runs_add rfl rfl (by omega)) ?_
        refine RW.op1 rfl (runs_move rfl) ?_
        refine RW.done ?_
        exact AQ.again (x := k) (k + 1) ⟨by rw [hnx]; exact hst.drop1, by omega⟩ ⟨rfl, rfl, rfl, rfl, rfl, trivial⟩ (by omega)
    · have hcb29 := hc29
      try simp only [decide_eq_true_eq, decide_eq_false_iff_not] at hc29
      skip
      refine CW.exit ?_
      refine AQ.past_exit ?_
      refine AQ.past_exit ?_
      refine AQ.block_hit ?_
      refine AQ.next ?_
      refine CW.seq ?_
      -- region 11
      refine CW.region ?_
      have hke := readTo_end (S := S) (a := at_) (k := k) (by omega)
      rw [hke] at hst
      have hrl : (readR S at_).length = 32 := by rw [← hke]; exact readTo_len hok ha0 ha1 k
      obtain ⟨I8, hI8, hstn, hr8⟩ := RdB.of_block (n := 32) hrl.symm hst (by unfold maxLen; omega)
      clear hst
      have hst := hstn
      clear hstn
      replace hle := hle.trans hI8
      refine RW.op1 rfl (runs_sliceA Try.underlying72 ti5 rfl) ?_
      refine RW.call rfl call49 rfl rfl (sclone_own hst hr8 (by omega)) ?_
      rintro e w ⟨v9, Lv9, rfl, hstn, hg9⟩
      clear hst
      have hst := hstn
      clear hstn
      refine ⟨_, rfl, ?_⟩
      refine RW.op1 rfl (runs_assign rfl) ?_
      refine RW.op1 rfl (runs_assign rfl) ?_
      refine RW.done ?_
      refine AQ.next ?_
      refine CW.ret ?_
      refine AQ.ret2 rfl rfl rfl ?_
      exact ⟨_, v9, Lv9, hle, by rw [hm0], by rw [hLL]; exact hst, by rw [if_pos hm0]; exact hg9⟩
theorem read_spec {w0 w : World} {I : Imm} {L Ld : Own} {d : Value} {S : DS} (hd : DiskO d S Ld) (hst : St w0 w I (Ld ++ L)) (at_ : Int) :
    Calls Try.prog 40 #[d, .int .i64 at_] w fun e w' => ∃ I' v', Imm.le I I' ∧ e = .returned (.tuple #[v', .int .i64 (mayR S at_)]) ∧ St w0 w' I' (Ld ++ L) ∧ RdB I' v' (if mayR S at_ = 0 then readR S at_ else []) := by
  refine (read_own hd hst at_).mono fun e w' ⟨I1, v', Lv, h0, h1, h2, h3⟩ => ?_
  obtain ⟨I', hI, hst, hr⟩ := GrowB.freeze h3 h2
  exact ⟨I', v', h0.trans hI, h1, hst, hr⟩
end Go.Proofs.YthocicjjighbnaaX
