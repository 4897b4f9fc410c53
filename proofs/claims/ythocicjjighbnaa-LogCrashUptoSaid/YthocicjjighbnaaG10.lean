/- The slots by hand: the walk. -/
import Derived.Test.YthocicjjighbnaaT
import Derived.Test.YthocicjjighbnaaG9
namespace Go.Proofs.YthocicjjighbnaaX
set_option linter.unusedVariables false
set_option linter.unusedSimpArgs false
open Go Go.RowKit Go.Proofs

theorem slotX_open {s : Slot} (h : SlotOk s) : openR (slotX s) = ⟨s.e, s.n, 0, 1, slotB s, 0⟩ := openR_sealB (by rw [slot_seal]; exact h.may)
theorem DI.slot {S : DS} {s : Slot} {bs : List (List UInt8)} {a nx : Int} (h : DI S.secs s bs a nx) (hp : S.pend = []) (hd : S.down = false) {p : Int} (he : s.n % 2 = p) : mayR S p = 0 ∧ openR (readR S p) = ⟨s.e, s.n, 0, 1, slotB s, 0⟩ := by
  have hl := h.len
  subst he
  rw [readR_nil hp, h.sl]
  exact ⟨may_in hd (by omega) (by omega), slotX_open h.so⟩
def G1L : LG := ⟨slot1.up, 2, 1, 0⟩
def G2L : LG := ⟨slot1.up, 3, 2, 0⟩
def G3L : LG := ⟨slot1.up, 4, 3, 0⟩
def G4L : LG := ⟨⟨3, 2, 1, 3, 2⟩, 259, 4, 0⟩
theorem ap_first {S' : DS} {G' : LG} {er : Int} {b : List UInt8} (hb : needN b.length = 1) (h : (er = 5 ∧ G' = G1L ∧ LI S' G1L [] ∧ roomR G1L < (needN b.length : Nat)) ∨ (er = 0 ∧ (needN b.length : Nat) ≤ roomR G1L ∧ LI S' G' ([] ++ [b]) ∧ G' = G1L.to (G1L.at_ + (needN b.length : Nat)) (G1L.nx + 1))) : er = 0 ∧ LI S' G' [b] ∧ G' = G2L := by
  rw [hb] at h
  rcases h with ⟨_, _, _, h⟩ | ⟨h1, _, h2, h3⟩
  · exact absurd h (by decide)
  · exact ⟨h1, h2, h3⟩
theorem ap_second {S' : DS} {G' : LG} {er : Int} {b : List UInt8} (hb : needN b.length = 1) (h : (er = 5 ∧ G' = G2L ∧ LI S' G2L [b] ∧ roomR G2L < (needN b.length : Nat)) ∨ (er = 0 ∧ (needN b.length : Nat) ≤ roomR G2L ∧ LI S' G' ([b] ++ [b]) ∧ G' = G2L.to (G2L.at_ + (needN b.length : Nat)) (G2L.nx + 1))) : er = 0 ∧ LI S' G' [b, b] ∧ G' = G3L := by
  rw [hb] at h
  rcases h with ⟨_, _, _, h⟩ | ⟨h1, _, h2, h3⟩
  · exact absurd h (by decide)
  · exact ⟨h1, h2, h3⟩
theorem tu_first {S' : DS} {G' : LG} {er : Int} {b : List UInt8} (hb : needN b.length = 1) (h : (er = 5 ∧ G' = G3L ∧ LI S' G3L [b, b] ∧ 256 < needS [b]) ∨ (er = 0 ∧ needS [b] ≤ 256 ∧ LI S' G' [b] ∧ G' = ⟨turnS G3L, beginR (1 - G3L.s.h) + (needS [b] : Nat), G3L.nx + (([b] : List (List UInt8)).length : Nat), 0⟩)) : er = 0 ∧ LI S' G' [b] ∧ G' = G4L := by
  rw [needS_one, hb] at h
  rcases h with ⟨_, _, _, h⟩ | ⟨h1, _, h2, h3⟩
  · exact absurd h (by decide)
  · exact ⟨h1, h2, h3⟩
set_option maxRecDepth 100000 in
set_option maxHeartbeats 1000000 in
theorem slot_spec {w0 w : World} {I : Imm} {L Ld : Own} {d : Value} {S : DS} (hd : DiskO d S Ld) (hst : St w0 w I (Ld ++ L)) {p : Int} (hm : mayR S p = 0) :
    Calls Try.prog 20 #[d, .int .i64 p] w fun e w' => ∃ I' v', Imm.le I I' ∧ e = .returned (.tuple #[.agg #[.int .i64 (openR (readR S p)).e, .int .i64 (openR (readR S p)).q], v']) ∧ St w0 w' I' (Ld ++ L) ∧ RdB I' v' (openR (readR S p)).b := by
  have hok := hd.ok
  have hlim := mayR_ok hm
  refine enter Try.func20 rfl (N := 29) rfl rfl ?_
  simp only [List.zipIdx_cons, List.zipIdx_nil, List.map_cons, List.map_nil, Nat.zero_add, Nat.reduceAdd]
  have hle := Imm.le.refl I
  refine CW.seq ?_
  -- region 0
  refine CW.region ?_
  refine RW.opE rfl (runs_alloc ti38 hst) ?_
  rintro _ w ⟨b1, rfl, hstn⟩
  clear hst
  have hst := hstn
  clear hstn
  refine RW.op1 rfl (runs_assign rfl) ?_
  refine RW.done ?_
  refine AQ.next ?_
  refine CW.seq ?_
  -- region 1
  refine CW.region ?_
  refine RW.op1 rfl (runs_move rfl) ?_
  refine RW.op1 rfl (runs_move rfl) ?_
  refine RW.call rfl call40 rfl rfl (read_spec hd (hst.perm List.perm_middle.symm) p) ?_
  rintro e w ⟨I2, vX, hI2, rfl, hstn, hX⟩
  clear hst
  have hst := hstn
  clear hstn
  replace hst := hst.perm List.perm_middle
  rw [if_pos hm] at hX
  have hXl := readR_len hok hlim.2.1 hlim.2.2
  replace hle := hle.trans hI2
  refine ⟨_, rfl, ?_⟩
  refine RW.op1 rfl (runs_move rfl) ?_
  refine RW.op1 rfl (runs_extract rfl rfl) ?_
  refine RW.op1 rfl (runs_extract rfl rfl) ?_
  refine RW.op1 rfl (runs_assign rfl) ?_
  refine RW.op1 rfl (runs_assign rfl) ?_
  refine RW.done ?_
  refine AQ.next ?_
  refine CW.seq ?_
  -- region 2
  refine CW.region ?_
  refine RW.op1 rfl (runs_move rfl) ?_
  refine RW.call rfl call41 rfl rfl (open_spec hst hX (by omega)) ?_
  rintro e w ⟨I3, vO, hI3, rfl, hstn, hO⟩
  clear hst
  have hst := hstn
  clear hstn
  replace hX := hX.mono hI3
  replace hle := hle.trans hI3
  refine ⟨_, rfl, ?_⟩
  refine RW.op1 rfl (runs_move rfl) ?_
  refine RW.op1 rfl (runs_extract rfl rfl) ?_
  refine RW.op1 rfl (runs_extract rfl rfl) ?_
  refine RW.op1 rfl (runs_extract rfl rfl) ?_
  refine RW.op1 rfl (runs_extract rfl rfl) ?_
  refine RW.op1 rfl (runs_extract rfl rfl) ?_
  refine RW.opE rfl (runs_alloc ti38 hst) ?_
  rintro _ w ⟨b4, rfl, hstn⟩
  clear hst
  have hst := hstn
  clear hstn
  first
    | refine RW.opE0 (runs_storeW ti38 rfl rfl hst (k := 0) rfl rfl rfl (NoFz.zero _) rfl) ?_
    | refine RW.opE0 (runs_storeP ti38 rfl rfl hst (k := 0) rfl rfl rfl (NoFz.zero _) rfl) ?_
    | refine RW.opE0 (runs_storeW ti38 rfl rfl hst (k := 1) rfl rfl rfl (NoFz.zero _) rfl) ?_
    | refine RW.opE0 (runs_storeP ti38 rfl rfl hst (k := 1) rfl rfl rfl (NoFz.zero _) rfl) ?_
    | refine RW.opE0 (runs_storeW ti38 rfl rfl hst (k := 2) rfl rfl rfl (NoFz.zero _) rfl) ?_
    | refine RW.opE0 (runs_storeP ti38 rfl rfl hst (k := 2) rfl rfl rfl (NoFz.zero _) rfl) ?_
  rintro w hstn
  clear hst
  have hst := hstn
  clear hstn
  try simp only [List.set_cons_zero, List.set_cons_succ] at hst
  refine RW.op1 rfl (runs_assign rfl) ?_
  refine RW.op1 rfl (runs_assign rfl) ?_
  refine RW.op1 rfl (runs_assign rfl) ?_
  refine RW.op1 rfl (runs_assign rfl) ?_
  refine RW.done ?_
  refine AQ.next ?_
  refine CW.seq ?_
  -- region 3
  refine CW.region ?_
  first
    | refine RW.op1 rfl (runs_loadN (vs := [_, _]) ag38 ti38 rfl hst (k := 0) rfl rfl rfl) ?_
    | refine RW.op1 rfl (runs_loadN (vs := [_, _]) ag38 ti38 rfl hst (k := 1) rfl rfl rfl) ?_
    | refine RW.op1 rfl (runs_loadN (vs := [_, _]) ag38 ti38 rfl hst (k := 2) rfl rfl rfl) ?_
  refine RW.op1 rfl (runs_move rfl) ?_
  first
    | refine RW.opE0 (runs_storeW ti38 rfl rfl hst (k := 0) rfl rfl rfl (NoFz.zero _) rfl) ?_
    | refine RW.opE0 (runs_storeP ti38 rfl rfl hst (k := 0) rfl rfl rfl (NoFz.zero _) rfl) ?_
    | refine RW.opE0 (runs_storeW ti38 rfl rfl hst (k := 1) rfl rfl rfl (NoFz.zero _) rfl) ?_
    | refine RW.opE0 (runs_storeP ti38 rfl rfl hst (k := 1) rfl rfl rfl (NoFz.zero _) rfl) ?_
    | refine RW.opE0 (runs_storeW ti38 rfl rfl hst (k := 2) rfl rfl rfl (NoFz.zero _) rfl) ?_
    | refine RW.opE0 (runs_storeP ti38 rfl rfl hst (k := 2) rfl rfl rfl (NoFz.zero _) rfl) ?_
  rintro w hstn
  clear hst
  have hst := hstn
  clear hstn
  try simp only [List.set_cons_zero, List.set_cons_succ] at hst
  refine RW.op1 rfl (runs_assign rfl) ?_
  refine RW.done ?_
  refine AQ.next ?_
  refine CW.ret ?_
  refine AQ.retL (rs := [.cell 4 38, .tmp 5]) (vs := [_, _]) rfl ⟨⟨_, rfl, hst.loadN (vs := [_, _]) (k := 1) ag38 ti38 rfl rfl rfl⟩, rfl, trivial⟩ (by simp) ?_
  exact ⟨_, _, hle, rfl, hst.drop1.drop1, hO⟩
set_option maxRecDepth 100000 in
set_option maxHeartbeats 1000000 in
theorem slots_spec {w0 w : World} {I : Imm} {L : Own} (hst : St w0 w I L) (n : Int) (hn : i64ok n) :
    Calls Try.prog 4 #[.int .i64 n] w fun e w' => e = .returned (.bool true) ∧ ∃ I', I.le I' ∧ St w0 w' I' L := by
  refine enter Try.func4 rfl (N := 100) rfl rfl ?_
  simp only [List.zipIdx_cons, List.zipIdx_nil, List.map_cons, List.map_nil, Nat.zero_add, Nat.reduceAdd]
  have hle := Imm.le.refl I
  refine CW.seq ?_
  -- region 0
  refine CW.region ?_
  refine RW.op1 rfl (runs_assign rfl) ?_
  refine RW.done ?_
  refine AQ.next ?_
  refine CW.seq ?_
  -- region 1
  refine CW.region ?_
  refine RW.call rfl call9 rfl rfl (new_spec hst 514) ?_
  rintro e w ⟨_, Ld, rfl, _, hstn, hd, a1, rfl⟩
  clear hst
  have hst := hstn
  clear hstn
  rw [newR_L] at hd
  refine ⟨_, rfl, ?_⟩
  refine RW.op1 rfl (runs_assign rfl) ?_
  refine RW.done ?_
  refine AQ.next ?_
  refine CW.seq ?_
  refine CW.seq ?_
  -- region 2
  refine CW.region ?_
  refine RW.op1 rfl (runs_move rfl) ?_
  refine RW.op1 rfl (runs_eq_nilptr Try.underlying24 rfl) ?_
  refine RW.op1 rfl (runs_move rfl) ?_
  have hk13 := (show (Option.isNone (some a1)) = false from rfl)
  refine RW.on_guard rfl rfl rfl rfl hk13 ?_
  refine RW.op1 rfl (runs_move rfl) ?_
  refine RW.on_guard rfl rfl rfl rfl hk13 ?_
  refine RW.call rfl call10 rfl rfl (format_up hd hst ⟨rfl, rfl⟩ (List.length_replicate ..) (Nat.zero_le _)) ?_
  rintro e w ⟨I2, Ld2, S2, hI2, rfl, hstn, hd2, hu2, hp2, hdi2⟩
  clear hst
  have hst := hstn
  clear hstn
  have hsl := hdi2.slot hp2 hu2.1 (p := 1) (by decide)
  replace hle := hle.trans hI2
  refine ⟨_, rfl, ?_⟩
  refine RW.on_guard rfl rfl rfl rfl hk13 ?_
  refine RW.op1 rfl (runs_neI rfl rfl) ?_
  refine RW.op1 rfl (runs_pick_false rfl hk13 rfl) ?_
  refine RW.done ?_
  refine AQ.next ?_
  refine CW.cond rfl (fun hc => absurd hc (by decide)) (fun hc => ?_)
  refine CW.skip ?_
  refine AQ.next ?_
  refine CW.seq ?_
  -- region 4
  refine CW.region ?_
  refine RW.op1 rfl (runs_move rfl) ?_
  refine RW.call rfl call20 rfl rfl (slot_spec hd2 hst hsl.1) ?_
  rintro e w ⟨I3, v1, hI3, rfl, hstn, h1⟩
  clear hst
  have hst := hstn
  clear hstn
  rw [hsl.2] at h1 ⊢
  dsimp only at h1 ⊢
  replace hle := hle.trans hI3
  refine ⟨_, rfl, ?_⟩
  refine RW.op1 rfl (runs_move rfl) ?_
  refine RW.op1 rfl (runs_extract rfl rfl) ?_
  refine RW.op1 rfl (runs_extract rfl rfl) ?_
  refine RW.opE rfl (runs_alloc ti38 hst) ?_
  rintro _ w ⟨b4, rfl, hstn⟩
  clear hst
  have hst := hstn
  clear hstn
  first
    | refine RW.opE0 (runs_storeW ti38 rfl rfl hst (k := 0) rfl rfl rfl (NoFz.zero _) rfl) ?_
    | refine RW.opE0 (runs_storeP ti38 rfl rfl hst (k := 0) rfl rfl rfl (NoFz.zero _) rfl) ?_
    | refine RW.opE0 (runs_storeW ti38 rfl rfl hst (k := 1) rfl rfl rfl (NoFz.zero _) rfl) ?_
    | refine RW.opE0 (runs_storeP ti38 rfl rfl hst (k := 1) rfl rfl rfl (NoFz.zero _) rfl) ?_
    | refine RW.opE0 (runs_storeW ti38 rfl rfl hst (k := 2) rfl rfl rfl (NoFz.zero _) rfl) ?_
    | refine RW.opE0 (runs_storeP ti38 rfl rfl hst (k := 2) rfl rfl rfl (NoFz.zero _) rfl) ?_
  rintro w hstn
  clear hst
  have hst := hstn
  clear hstn
  try simp only [List.set_cons_zero, List.set_cons_succ] at hst
  refine RW.op1 rfl (runs_assign rfl) ?_
  refine RW.done ?_
  refine AQ.next ?_
  refine CW.seq ?_
  refine CW.seq ?_
  -- region 5
  refine CW.region ?_
  first
    | refine RW.op1 rfl (runs_loadN (vs := [_, _]) ag38 ti38 rfl hst (k := 0) rfl rfl rfl) ?_
    | refine RW.op1 rfl (runs_loadN (vs := [_, _]) ag38 ti38 rfl hst (k := 1) rfl rfl rfl) ?_
    | refine RW.op1 rfl (runs_loadN (vs := [_, _]) ag38 ti38 rfl hst (k := 2) rfl rfl rfl) ?_
  refine RW.op1 rfl (runs_buildF (cells := [_, _]) bz38 rfl rfl rfl rfl rfl) ?_
  refine RW.op1 rfl (runs_neZ (xs := [_, _]) (ys := [_, _]) ez38 rfl rfl rfl rfl) ?_
  refine RW.op1 rfl (runs_move rfl) ?_
  have hk26 := (show decide (([slot1.e, slot1.n] : List Int) ≠ [1, 1]) = false by decide)
  refine RW.on_guard rfl rfl rfl rfl hk26 ?_
  refine RW.op1 rfl (runs_move rfl) ?_
  refine RW.on_guard rfl rfl rfl rfl hk26 ?_
  refine RW.opE rfl (runs_litB (bs := [0, 0, 0, 1, 0, 1]) rfl Try.underlying33 ti5 (by decide) rfl rfl rfl hst) ?_
  rintro u6 w ⟨I6, hI6, hstn, h6⟩
  clear hst
  have hst := hstn
  clear hstn
  replace h1 := h1.mono hI6
  replace hle := hle.trans hI6
  refine RW.on_guard rfl rfl rfl rfl hk26 ?_
  refine RW.call rfl call21 rfl rfl (same_spec hst h1 h6 (by decide)) ?_
  rintro e w ⟨rfl, hstn⟩
  clear hst
  have hst := hstn
  clear hstn
  refine ⟨_, rfl, ?_⟩
  refine RW.on_guard rfl rfl rfl rfl hk26 ?_
  refine RW.op1 rfl (runs_not rfl) ?_
  refine RW.op1 rfl (runs_pick_false rfl hk26 rfl) ?_
  refine RW.done ?_
  refine AQ.next ?_
  refine CW.cond rfl (fun hc => absurd hc (show ¬ (!decide (slotB slot1 = [0, 0, 0, 1, 0, 1])) = true by decide)) (fun hc => ?_)
  refine CW.skip ?_
  refine AQ.next ?_
  refine CW.seq ?_
  -- region 7
  refine CW.region ?_
  refine RW.op1 rfl (runs_move rfl) ?_
  refine RW.call rfl call11 rfl rfl (open_up hd2 (hst.perm List.perm_middle.symm) hu2 hp2 hdi2 (by decide)) ?_
  rintro e w ⟨I8, Ld3, lb, y, vs, S3, hI8, rfl, hstn, hd3, hr3, hli3, hu3⟩
  clear hst
  have hst := hstn
  clear hstn
  replace hst := hst.perm (perm_in3 _ _ Ld3 L).symm
  have hsl3 := hli3.di.slot hli3.pn hu3.1 (p := 0) (by decide)
  replace h1 := h1.mono hI8
  replace h6 := h6.mono hI8
  replace hle := hle.trans hI8
  refine ⟨_, rfl, ?_⟩
  refine RW.op1 rfl (runs_move rfl) ?_
  refine RW.op1 rfl (runs_extract rfl rfl) ?_
  refine RW.op1 rfl (runs_extract rfl rfl) ?_
  refine RW.op1 rfl (runs_extract rfl rfl) ?_
  refine RW.op1 rfl (runs_assign rfl) ?_
  refine RW.op1 rfl (runs_assign rfl) ?_
  refine RW.op1 rfl (runs_assign rfl) ?_
  refine RW.done ?_
  refine AQ.next ?_
  refine CW.seq ?_
  -- region 8
  refine CW.region ?_
  refine RW.op1 rfl (runs_move rfl) ?_
  refine RW.call rfl call20 rfl rfl (slot_spec hd3 (hst.perm (perm_two2 _ _ Ld3 L)) hsl3.1) ?_
  rintro e w ⟨I9, v2, hI9, rfl, hstn, h2⟩
  clear hst
  have hst := hstn
  clear hstn
  replace hst := hst.perm (perm_two2 _ _ Ld3 L).symm
  rw [hsl3.2] at h2 ⊢
  dsimp only at h2 ⊢
  replace h1 := h1.mono hI9
  replace h6 := h6.mono hI9
  replace hle := hle.trans hI9
  refine ⟨_, rfl, ?_⟩
  refine RW.op1 rfl (runs_move rfl) ?_
  refine RW.op1 rfl (runs_extract rfl rfl) ?_
  refine RW.op1 rfl (runs_extract rfl rfl) ?_
  first
    | refine RW.opE0 (runs_storeW ti38 rfl rfl hst (k := 0) rfl rfl rfl (NoFz.zero _) rfl) ?_
    | refine RW.opE0 (runs_storeP ti38 rfl rfl hst (k := 0) rfl rfl rfl (NoFz.zero _) rfl) ?_
    | refine RW.opE0 (runs_storeW ti38 rfl rfl hst (k := 1) rfl rfl rfl (NoFz.zero _) rfl) ?_
    | refine RW.opE0 (runs_storeP ti38 rfl rfl hst (k := 1) rfl rfl rfl (NoFz.zero _) rfl) ?_
    | refine RW.opE0 (runs_storeW ti38 rfl rfl hst (k := 2) rfl rfl rfl (NoFz.zero _) rfl) ?_
    | refine RW.opE0 (runs_storeP ti38 rfl rfl hst (k := 2) rfl rfl rfl (NoFz.zero _) rfl) ?_
  rintro w hstn
  clear hst
  have hst := hstn
  clear hstn
  try simp only [List.set_cons_zero, List.set_cons_succ] at hst
  refine RW.op1 rfl (runs_assign rfl) ?_
  refine RW.done ?_
  refine AQ.next ?_
  refine CW.seq ?_
  refine CW.seq ?_
  -- region 9
  refine CW.region ?_
  refine RW.op1 rfl (runs_move rfl) ?_
  refine RW.op1 rfl (runs_neI rfl rfl) ?_
  refine RW.op1 rfl (runs_move rfl) ?_
  have hk45 := (show decide ((0 : Int) ≠ 0) = false by decide)
  refine RW.on_guard rfl rfl rfl rfl hk45 ?_
  refine RW.op1 rfl (runs_move rfl) ?_
  refine RW.on_guard rfl rfl rfl rfl hk45 ?_
  refine RW.op1 rfl (runs_eq_nilptr Try.underlying28 rfl) ?_
  refine RW.op1 rfl (runs_pick_false rfl hk45 rfl) ?_
  refine RW.op1 rfl (runs_move rfl) ?_
  have hk49 := (show (Option.isNone (some (⟨lb, 0, none⟩ : Addr))) = false from rfl)
  refine RW.on_guard rfl rfl rfl rfl hk49 ?_
  first
    | refine RW.op1 rfl (runs_loadN (vs := [_, _]) ag38 ti38 rfl hst (k := 0) rfl rfl rfl) ?_
    | refine RW.op1 rfl (runs_loadN (vs := [_, _]) ag38 ti38 rfl hst (k := 1) rfl rfl rfl) ?_
    | refine RW.op1 rfl (runs_loadN (vs := [_, _]) ag38 ti38 rfl hst (k := 2) rfl rfl rfl) ?_
  refine RW.on_guard rfl rfl rfl rfl hk49 ?_
  refine RW.op1 rfl (runs_buildF (cells := [_, _]) bz38 rfl rfl rfl rfl rfl) ?_
  refine RW.on_guard rfl rfl rfl rfl hk49 ?_
  refine RW.op1 rfl (runs_neZ (xs := [_, _]) (ys := [_, _]) ez38 rfl rfl rfl rfl) ?_
  refine RW.op1 rfl (runs_pick_false rfl hk49 rfl) ?_
  refine RW.op1 rfl (runs_move rfl) ?_
  have hk54 := (show decide (([slot1.up.e, slot1.up.n] : List Int) ≠ [2, 2]) = false by decide)
  refine RW.on_guard rfl rfl rfl rfl hk54 ?_
  refine RW.op1 rfl (runs_move rfl) ?_
  refine RW.on_guard rfl rfl rfl rfl hk54 ?_
  refine RW.opE rfl (runs_litB (bs := [0, 0, 0, 1, 0, 1]) rfl Try.underlying33 ti5 (by decide) rfl rfl rfl hst) ?_
  rintro u11 w ⟨I11, hI11, hstn, h11⟩
  clear hst
  have hst := hstn
  clear hstn
  replace h1 := h1.mono hI11
  replace h6 := h6.mono hI11
  replace h2 := h2.mono hI11
  replace hle := hle.trans hI11
  refine RW.on_guard rfl rfl rfl rfl hk54 ?_
  refine RW.call rfl call21 rfl rfl (same_spec hst h2 h11 (by decide)) ?_
  rintro e w ⟨rfl, hstn⟩
  clear hst
  have hst := hstn
  clear hstn
  refine ⟨_, rfl, ?_⟩
  refine RW.on_guard rfl rfl rfl rfl hk54 ?_
  refine RW.op1 rfl (runs_not rfl) ?_
  refine RW.op1 rfl (runs_pick_false rfl hk54 rfl) ?_
  refine RW.done ?_
  refine AQ.next ?_
  refine CW.cond rfl (fun hc => absurd hc (show ¬ (!decide (slotB slot1.up = [0, 0, 0, 1, 0, 1])) = true by decide)) (fun hc => ?_)
  refine CW.skip ?_
  refine AQ.next ?_
  refine CW.seq ?_
  -- region 11
  refine CW.region ?_
  refine RW.op1 rfl (runs_move rfl) ?_
  refine RW.call rfl call13 rfl rfl (bytes_spec hst n 3 hn (by omega)) ?_
  rintro e w ⟨I13, vx, hI13, rfl, hstn, hx⟩
  clear hst
  have hst := hstn
  clear hstn
  have hxl : (bytesOf n 3).length = 3 := bytesOf_length _ _
  generalize bytesOf n 3 = bx at hx hxl
  have hxn : needN bx.length = 1 := by rw [hxl]; decide
  replace h1 := h1.mono hI13
  replace h6 := h6.mono hI13
  replace h2 := h2.mono hI13
  replace h11 := h11.mono hI13
  replace hle := hle.trans hI13
  refine ⟨_, rfl, ?_⟩
  refine RW.op1 rfl (runs_assign rfl) ?_
  refine RW.done ?_
  refine AQ.next ?_
  refine CW.seq ?_
  refine CW.seq ?_
  -- region 12
  refine CW.region ?_
  refine RW.op1 rfl (runs_move rfl) ?_
  refine RW.op1 rfl (runs_move rfl) ?_
  refine RW.call rfl call18 rfl rfl (append_up hd3 (hst.perm (perm_in3 _ _ Ld3 L)) hu3 hli3 hx (by omega) (by decide)) ?_
  rintro e w ⟨I14, Ld4, S4, G4, er4, hI14, rfl, hstn, hd4, hu4, hap4⟩
  clear hst
  have hst := hstn
  clear hstn
  replace hst := hst.perm (perm_in3 _ _ Ld4 L).symm
  obtain ⟨rfl, hli4, rfl⟩ := ap_first hxn hap4
  replace h1 := h1.mono hI14
  replace h6 := h6.mono hI14
  replace h2 := h2.mono hI14
  replace h11 := h11.mono hI14
  replace hx := hx.mono hI14
  replace hle := hle.trans hI14
  refine ⟨_, rfl, ?_⟩
  refine RW.op1 rfl (runs_neI rfl rfl) ?_
  refine RW.op1 rfl (runs_move rfl) ?_
  have hk66 := (show decide ((0 : Int) ≠ 0) = false by decide)
  refine RW.on_guard rfl rfl rfl rfl hk66 ?_
  refine RW.op1 rfl (runs_move rfl) ?_
  refine RW.on_guard rfl rfl rfl rfl hk66 ?_
  refine RW.op1 rfl (runs_move rfl) ?_
  refine RW.on_guard rfl rfl rfl rfl hk66 ?_
  refine RW.call rfl call18 rfl rfl (append_up hd4 (hst.perm (perm_in3 _ _ Ld4 L)) hu4 hli4 hx (by omega) (by decide)) ?_
  rintro e w ⟨I15, Ld5, S5, G5, er5, hI15, rfl, hstn, hd5, hu5, hap5⟩
  clear hst
  have hst := hstn
  clear hstn
  replace hst := hst.perm (perm_in3 _ _ Ld5 L).symm
  obtain ⟨rfl, hli5, rfl⟩ := ap_second hxn hap5
  replace h1 := h1.mono hI15
  replace h6 := h6.mono hI15
  replace h2 := h2.mono hI15
  replace h11 := h11.mono hI15
  replace hx := hx.mono hI15
  replace hle := hle.trans hI15
  refine ⟨_, rfl, ?_⟩
  refine RW.on_guard rfl rfl rfl rfl hk66 ?_
  refine RW.op1 rfl (runs_neI rfl rfl) ?_
  refine RW.op1 rfl (runs_pick_false rfl hk66 rfl) ?_
  refine RW.op1 rfl (runs_move rfl) ?_
  have hk72 := (show decide ((0 : Int) ≠ 0) = false by decide)
  refine RW.on_guard rfl rfl rfl rfl hk72 ?_
  refine RW.op1 rfl (runs_move rfl) ?_
  refine RW.on_guard rfl rfl rfl rfl hk72 ?_
  refine RW.op1 rfl (runs_move rfl) ?_
  refine RW.on_guard rfl rfl rfl rfl hk72 ?_
  refine RW.opE rfl (runs_lit1R (xs := [vx]) Try.underlying29 ti33 (by decide) rfl rfl rfl (by simpa using hx.one) hst) ?_
  rintro u16 w ⟨I16, hI16, hstn, h16⟩
  clear hst
  have hst := hstn
  clear hstn
  replace h1 := h1.mono hI16
  replace h6 := h6.mono hI16
  replace h2 := h2.mono hI16
  replace h11 := h11.mono hI16
  replace hx := hx.mono hI16
  replace hle := hle.trans hI16
  have hvx : RdR _ u16 [vx] [bx] := RdR.of_all h16 rfl ⟨hx, trivial⟩
  refine RW.on_guard rfl rfl rfl rfl hk72 ?_
  refine RW.call rfl call22 rfl rfl (turn_up hd5 (hst.perm (perm_in3 _ _ Ld5 L)) hu5 hli5 hvx (by show 1 ≤ 1000; decide) (by simp; omega) (by show (3 : Int) + ((1 : Nat) : Int) ≤ 16777215; decide) (by decide)) ?_
  rintro e w ⟨I17, Ld6, S6, G6, er6, hI17, rfl, hstn, hd6, hu6, htu⟩
  clear hst
  have hst := hstn
  clear hstn
  replace hst := hst.perm (perm_in3 _ _ Ld6 L).symm
  obtain ⟨rfl, hli6, rfl⟩ := tu_first hxn htu
  have hsl6 := hli6.di.slot hli6.pn hu6.1 (p := 1) (by decide)
  replace h1 := h1.mono hI17
  replace h6 := h6.mono hI17
  replace h2 := h2.mono hI17
  replace h11 := h11.mono hI17
  replace hx := hx.mono hI17
  replace h16 := h16.mono hI17
  replace hvx := hvx.mono hI17
  replace hle := hle.trans hI17
  refine ⟨_, rfl, ?_⟩
  refine RW.on_guard rfl rfl rfl rfl hk72 ?_
  refine RW.op1 rfl (runs_neI rfl rfl) ?_
  refine RW.op1 rfl (runs_pick_false rfl hk72 rfl) ?_
  refine RW.done ?_
  refine AQ.next ?_
  refine CW.cond rfl (fun hc => absurd hc (by decide)) (fun hc => ?_)
  refine CW.skip ?_
  refine AQ.next ?_
  refine CW.seq ?_
  -- region 14
  refine CW.region ?_
  refine RW.op1 rfl (runs_move rfl) ?_
  refine RW.call rfl call20 rfl rfl (slot_spec hd6 (hst.perm (perm_two2 _ _ Ld6 L)) hsl6.1) ?_
  rintro e w ⟨I18, v3, hI18, rfl, hstn, h3⟩
  clear hst
  have hst := hstn
  clear hstn
  replace hst := hst.perm (perm_two2 _ _ Ld6 L).symm
  rw [hsl6.2] at h3 ⊢
  dsimp only at h3 ⊢
  replace h1 := h1.mono hI18
  replace h6 := h6.mono hI18
  replace h2 := h2.mono hI18
  replace h11 := h11.mono hI18
  replace hx := hx.mono hI18
  replace h16 := h16.mono hI18
  replace hvx := hvx.mono hI18
  replace hle := hle.trans hI18
  refine ⟨_, rfl, ?_⟩
  refine RW.op1 rfl (runs_move rfl) ?_
  refine RW.op1 rfl (runs_extract rfl rfl) ?_
  refine RW.op1 rfl (runs_extract rfl rfl) ?_
  first
    | refine RW.opE0 (runs_storeW ti38 rfl rfl hst (k := 0) rfl rfl rfl (NoFz.zero _) rfl) ?_
    | refine RW.opE0 (runs_storeP ti38 rfl rfl hst (k := 0) rfl rfl rfl (NoFz.zero _) rfl) ?_
    | refine RW.opE0 (runs_storeW ti38 rfl rfl hst (k := 1) rfl rfl rfl (NoFz.zero _) rfl) ?_
    | refine RW.opE0 (runs_storeP ti38 rfl rfl hst (k := 1) rfl rfl rfl (NoFz.zero _) rfl) ?_
    | refine RW.opE0 (runs_storeW ti38 rfl rfl hst (k := 2) rfl rfl rfl (NoFz.zero _) rfl) ?_
    | refine RW.opE0 (runs_storeP ti38 rfl rfl hst (k := 2) rfl rfl rfl (NoFz.zero _) rfl) ?_
  rintro w hstn
  clear hst
  have hst := hstn
  clear hstn
  try simp only [List.set_cons_zero, List.set_cons_succ] at hst
  refine RW.op1 rfl (runs_assign rfl) ?_
  refine RW.done ?_
  refine AQ.next ?_
  refine CW.seq ?_
  -- region 15
  refine CW.region ?_
  first
    | refine RW.op1 rfl (runs_loadN (vs := [_, _]) ag38 ti38 rfl hst (k := 0) rfl rfl rfl) ?_
    | refine RW.op1 rfl (runs_loadN (vs := [_, _]) ag38 ti38 rfl hst (k := 1) rfl rfl rfl) ?_
    | refine RW.op1 rfl (runs_loadN (vs := [_, _]) ag38 ti38 rfl hst (k := 2) rfl rfl rfl) ?_
  refine RW.op1 rfl (runs_buildF (cells := [_, _]) bz38 rfl rfl rfl rfl rfl) ?_
  refine RW.op1 rfl (runs_eqZ (xs := [_, _]) (ys := [_, _]) ez38 rfl rfl rfl rfl) ?_
  refine RW.op1 rfl (runs_move rfl) ?_
  have hk87 := (show decide (([G4L.s.e, G4L.s.n] : List Int) = [2, 3]) = true by decide)
  refine RW.on_guard rfl rfl rfl rfl hk87 ?_
  refine RW.op1 rfl (runs_move rfl) ?_
  refine RW.on_guard rfl rfl rfl rfl hk87 ?_
  refine RW.opE rfl (runs_litB (bs := [1, 0, 0, 3, 0, 2]) rfl Try.underlying33 ti5 (by decide) rfl rfl rfl hst) ?_
  rintro u20 w ⟨I20, hI20, hstn, h20⟩
  clear hst
  have hst := hstn
  clear hstn
  replace h1 := h1.mono hI20
  replace h6 := h6.mono hI20
  replace h2 := h2.mono hI20
  replace h11 := h11.mono hI20
  replace hx := hx.mono hI20
  replace h16 := h16.mono hI20
  replace hvx := hvx.mono hI20
  replace h3 := h3.mono hI20
  replace hle := hle.trans hI20
  refine RW.on_guard rfl rfl rfl rfl hk87 ?_
  refine RW.call rfl call21 rfl rfl (same_spec hst h3 h20 (by decide)) ?_
  rintro e w ⟨rfl, hstn⟩
  clear hst
  have hst := hstn
  clear hstn
  refine ⟨_, rfl, ?_⟩
  refine RW.op1 rfl (runs_pick_true rfl hk87 rfl) ?_
  refine RW.op1 rfl (runs_move rfl) ?_
  have hk92 := (show decide (slotB G4L.s = [1, 0, 0, 3, 0, 2]) = true by decide)
  refine RW.on_guard rfl rfl rfl rfl hk92 ?_
  refine RW.op1 rfl (runs_move rfl) ?_
  refine RW.on_guard rfl rfl rfl rfl hk92 ?_
  refine RW.call rfl call23 rfl rfl (room_spec (G := G4L) (hst.perm (perm_in3 _ _ Ld6 L)) (by decide) (by decide)) ?_
  rintro e w ⟨rfl, hstn⟩
  clear hst
  have hst := hstn
  clear hstn
  replace hst := hst.perm (perm_in3 _ _ Ld6 L).symm
  refine ⟨_, rfl, ?_⟩
  refine RW.on_guard rfl rfl rfl rfl hk92 ?_
  refine RW.op1 rfl (runs_eqI rfl rfl) ?_
  refine RW.op1 rfl (runs_pick_true rfl hk92 rfl) ?_
  refine RW.op1 rfl (runs_move rfl) ?_
  have hk97 := (show decide (beginR G4L.s.h + 256 - G4L.at_ = 255) = true by decide)
  refine RW.on_guard rfl rfl rfl rfl hk97 ?_
  refine RW.call rfl call19 rfl rfl (wakes04_spec hst) ?_
  rintro e w ⟨rfl, I23, hI23, hstn⟩
  clear hst
  have hst := hstn
  clear hstn
  replace h1 := h1.mono hI23
  replace h6 := h6.mono hI23
  replace h2 := h2.mono hI23
  replace h11 := h11.mono hI23
  replace hx := hx.mono hI23
  replace h16 := h16.mono hI23
  replace hvx := hvx.mono hI23
  replace h3 := h3.mono hI23
  replace h20 := h20.mono hI23
  replace hle := hle.trans hI23
  refine ⟨_, rfl, ?_⟩
  refine RW.op1 rfl (runs_pick_true rfl hk97 rfl) ?_
  refine RW.op1 rfl (runs_assign rfl) ?_
  refine RW.done ?_
  refine AQ.next ?_
  refine CW.ret ?_
  refine AQ.ret1 rfl rfl ?_
  exact ⟨rfl, _, hle, hst.sub (((List.sublist_append_right _ _).trans (List.sublist_cons_self _ _)).trans (List.sublist_cons_self _ _))⟩
end Go.Proofs.YthocicjjighbnaaX
