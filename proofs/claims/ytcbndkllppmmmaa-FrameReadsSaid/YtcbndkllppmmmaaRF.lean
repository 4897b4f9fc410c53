/- A record is read as it was written; spoilt it is none: the walk. -/
import Derived.Test.YtcbndkllppmmmaaT
import Derived.Test.YtcbndkllppmmmaaRE
namespace Go.Proofs.YtcbndkllppmmmaaX
set_option linter.unusedVariables false
set_option linter.unusedSimpArgs false
open Go Go.RowKit Go.Proofs

set_option maxRecDepth 100000 in
set_option maxHeartbeats 1000000 in
theorem freads_spec {w0 w : World} {I : Imm} {L : Own} (hst : St w0 w I L) (n size at0 k how : Int) (hn : i64ok n) (hsz : i64ok size) (hat0 : i64ok at0) (hkk : i64ok k) (hhow : i64ok how) :
    Calls Try.prog 5 #[.int .i64 n, .int .i64 size, .int .i64 at0, .int .i64 k, .int .i64 how] w fun e w' => e = .returned (.bool true) ∧ ∃ I', I.le I' ∧ St w0 w' I' L := by
  refine enter Try.func5 rfl (N := 271) rfl rfl ?_
  simp only [List.zipIdx_cons, List.zipIdx_nil, List.map_cons, List.map_nil, Nat.zero_add, Nat.reduceAdd]
  have hle := Imm.le.refl I
  refine CW.seq ?_
  -- region 0
  refine CW.region ?_
  refine RW.op1 rfl (runs_assign rfl) ?_
  refine RW.done ?_
  refine AQ.next ?_
  refine CW.seq ?_
  -- region 1
  refine CW.region ?_
  refine RW.op1 rfl (runs_assign rfl) ?_
  refine RW.done ?_
  refine AQ.next ?_
  refine CW.seq ?_
  -- region 2
  refine CW.region ?_
  refine RW.call rfl call10 rfl rfl (new_spec hst 12) ?_
  rintro e w ⟨_, Ld1, rfl, _, hstn, hd1, a1, rfl⟩
  clear hst
  have hst := hstn
  clear hstn
  have hsl : (newR 12).secs.length = 12 := rfl
  refine ⟨_, rfl, ?_⟩
  refine RW.op1 rfl (runs_assign rfl) ?_
  refine RW.done ?_
  refine AQ.next ?_
  refine CW.seq ?_
  refine CW.seq ?_
  -- region 3
  refine CW.region ?_
  refine RW.op1 rfl (runs_move rfl) ?_
  refine RW.op1 rfl (runs_eq_nilptr Try.underlying26 rfl) ?_
  refine RW.done ?_
  refine AQ.next ?_
  refine CW.cond rfl (fun hc => absurd hc (by rw [(show (Option.isNone (some a1)) = false from rfl)]; decide)) (fun hc => ?_)
  refine CW.skip ?_
  refine AQ.next ?_
  refine CW.seq ?_
  -- region 5
  refine CW.region ?_
  refine RW.op1 rfl (runs_move rfl) ?_
  refine RW.op1 rfl (runs_move rfl) ?_
  refine RW.op1 rfl (runs_move rfl) ?_
  refine RW.call rfl call13 rfl rfl (within_spec hst (v := size) (n := 100) (hsz) (by unfold i64ok; omega)) ?_
  rintro e w ⟨rfl, hstn⟩
  clear hst
  have hst := hstn
  clear hstn
  have hw48 := within_range (size) (100)
  generalize hx48 : within (size) (100) = x48 at *
  refine ⟨_, rfl, ?_⟩
  refine RW.call rfl call17 rfl rfl (bytes_spec hst n x48 hn (by omega)) ?_
  rintro e w ⟨I3, vb, hI3, rfl, hstn, hB⟩
  clear hst
  have hst := hstn
  clear hstn
  have hbl : (bytesOf n x48).length = x48.toNat := bytesOf_length _ _
  have hsum : 16 ≤ (bytesOf n x48).length → sumN ((bytesOf n x48).take 15) ≠ sumN (bytesOf n x48) := fun h => bytes_sum (by omega) (by omega)
  generalize bytesOf n x48 = bb at hB hbl hsum
  have hnb := need_room bb.length
  have hn6 : needN bb.length ≤ 6 := by omega
  replace hle := hle.trans hI3
  refine ⟨_, rfl, ?_⟩
  refine RW.op1 rfl (runs_assign rfl) ?_
  refine RW.done ?_
  refine AQ.next ?_
  refine CW.seq ?_
  -- region 6
  refine CW.region ?_
  refine RW.op1 rfl (runs_move rfl) ?_
  refine RW.op1 rfl (runs_move rfl) ?_
  refine RW.call rfl call13 rfl rfl (within_spec hst (v := at0) (n := 4) (hat0) (by unfold i64ok; omega)) ?_
  rintro e w ⟨rfl, hstn⟩
  clear hst
  have hst := hstn
  clear hstn
  have hw52 := within_range (at0) (4)
  generalize hx52 : within (at0) (4) = x52 at *
  refine ⟨_, rfl, ?_⟩
  refine RW.op1 rfl (runs_assign rfl) ?_
  refine RW.done ?_
  refine AQ.next ?_
  refine CW.seq ?_
  -- region 7
  refine CW.region ?_
  refine RW.op1 rfl (runs_buildF (cells := [_, _]) bz32 rfl rfl rfl rfl rfl) ?_
  refine RW.opE rfl (runs_alloc ti32 hst) ?_
  rintro _ w ⟨b5, rfl, hstn⟩
  clear hst
  have hst := hstn
  clear hstn
  first
    | refine RW.opE0 (runs_storeW ti32 rfl rfl hst (k := 0) rfl rfl rfl (NoFz.zero _) rfl) ?_
    | refine RW.opE0 (runs_storeP ti32 rfl rfl hst (k := 0) rfl rfl rfl (NoFz.zero _) rfl) ?_
    | refine RW.opE0 (runs_storeW ti32 rfl rfl hst (k := 1) rfl rfl rfl (NoFz.zero _) rfl) ?_
    | refine RW.opE0 (runs_storeP ti32 rfl rfl hst (k := 1) rfl rfl rfl (NoFz.zero _) rfl) ?_
    | refine RW.opE0 (runs_storeW ti32 rfl rfl hst (k := 2) rfl rfl rfl (NoFz.zero _) rfl) ?_
    | refine RW.opE0 (runs_storeP ti32 rfl rfl hst (k := 2) rfl rfl rfl (NoFz.zero _) rfl) ?_
  rintro w hstn
  clear hst
  have hst := hstn
  clear hstn
  try simp only [List.set_cons_zero, List.set_cons_succ] at hst
  refine RW.done ?_
  refine AQ.next ?_
  refine CW.seq ?_
  -- region 8
  refine CW.region ?_
  refine RW.op1 rfl (runs_move rfl) ?_
  refine RW.op1 rfl (runs_move rfl) ?_
  first
    | refine RW.op1 rfl (runs_loadN (vs := [_, _]) ag32 ti32 rfl hst (k := 0) rfl rfl rfl) ?_
    | refine RW.op1 rfl (runs_loadN (vs := [_, _]) ag32 ti32 rfl hst (k := 1) rfl rfl rfl) ?_
    | refine RW.op1 rfl (runs_loadN (vs := [_, _]) ag32 ti32 rfl hst (k := 2) rfl rfl rfl) ?_
  refine RW.op1 rfl (runs_move rfl) ?_
  refine RW.call rfl call11 rfl rfl (fwrite_spec hd1 (hst.perm List.perm_middle.symm) x52 3 7 (by unfold i64ok; omega) (b := bb) hB (by omega) (Nat.zero_le _)) ?_
  rintro e w ⟨I7, Ld2, S2, nx, er, hI7, rfl, hstn, hd2, hfw⟩
  clear hst
  have hst := hstn
  clear hstn
  replace hst := hst.perm List.perm_middle
  obtain ⟨rfl, rfl, rfl⟩ := fw_ok (S := newR 12) ⟨rfl, rfl⟩ (by decide) (by omega) (by omega) (by rw [hsl]; omega) hfw
  replace hd2 : DiskO _ (recS x52 bb) Ld2 := hd2
  obtain ⟨hup, hl12, hh, hzb, hpl⟩ := recS_ok x52 (b := bb) hn6 (by omega) (by omega)
  replace hB := hB.mono hI7
  replace hle := hle.trans hI7
  refine ⟨_, rfl, ?_⟩
  refine RW.op1 rfl (runs_move rfl) ?_
  refine RW.op1 rfl (runs_extract rfl rfl) ?_
  refine RW.op1 rfl (runs_extract rfl rfl) ?_
  refine RW.op1 rfl (runs_assign rfl) ?_
  refine RW.op1 rfl (runs_assign rfl) ?_
  refine RW.done ?_
  refine AQ.next ?_
  refine CW.seq ?_
  refine CW.seq ?_
  -- region 9
  refine CW.region ?_
  refine RW.op1 rfl (runs_move rfl) ?_
  refine RW.op1 rfl (runs_neI rfl rfl) ?_
  refine RW.op1 rfl (runs_move rfl) ?_
  have hk64 := (show decide ((0 : Int) ≠ 0) = false by decide)
  refine RW.on_guard rfl rfl rfl rfl hk64 ?_
  refine RW.op1 rfl (runs_move rfl) ?_
  refine RW.on_guard rfl rfl rfl rfl hk64 ?_
  refine RW.op1 rfl (runs_move rfl) ?_
  refine RW.on_guard rfl rfl rfl rfl hk64 ?_
  refine RW.op1 rfl (runs_move rfl) ?_
  refine RW.on_guard rfl rfl rfl rfl hk64 ?_
  first
    | refine RW.op1 rfl (RdL.len Try.underlying24 rfl (by assumption)) ?_
    | refine RW.op1 rfl (runs_lenL Try.underlying24 rfl) ?_
    | refine RW.op1 rfl (Grow.len Try.underlying24 rfl (by assumption)) ?_
  refine RW.on_guard rfl rfl rfl rfl hk64 ?_
  refine RW.op1 rfl (runs_add rfl rfl (by omega)) ?_
  refine RW.on_guard rfl rfl rfl rfl hk64 ?_
  refine RW.op1 rfl (runs_quo rfl rfl (by omega)) ?_
  rw [show (((bb.length : Nat) : Int) + 22).tdiv 19 = ((needN bb.length : Nat) : Int) from by
    rw [show (((bb.length : Nat) : Int) + 22) = ((bb.length + 22 : Nat) : Int) by omega]
    rfl, wrap_i64 (by omega)]
  refine RW.on_guard rfl rfl rfl rfl hk64 ?_
  refine RW.op1 rfl (runs_add rfl rfl (by omega)) ?_
  refine RW.on_guard rfl rfl rfl rfl hk64 ?_
  refine RW.op1 rfl (runs_neI rfl rfl) ?_
  refine RW.op1 rfl (runs_pick_false rfl hk64 rfl) ?_
  refine RW.done ?_
  refine AQ.next ?_
  refine CW.cond rfl (fun hc => absurd hc (by simp)) (fun hc => ?_)
  refine CW.skip ?_
  refine AQ.next ?_
  refine CW.seq ?_
  -- region 11
  refine CW.region ?_
  refine RW.op1 rfl (runs_move rfl) ?_
  refine RW.op1 rfl (runs_move rfl) ?_
  refine RW.op1 rfl (runs_move rfl) ?_
  refine RW.call rfl call18 rfl rfl (fread_spec hd2 (hst.perm List.perm_middle.symm) x52 (x52 + ((needN bb.length : Nat) : Int))) ?_
  rintro e w ⟨I8, vG, re, rq, rb, rn, rer, hI8, rfl, hstn, hG, hfr⟩
  clear hst
  have hst := hstn
  clear hstn
  replace hst := hst.perm List.perm_middle
  have hrr := hh.read hup.1 (by omega) (Int.le_refl _) (by rw [hl12]; omega) hfr
  simp only [Prod.mk.injEq] at hrr
  obtain ⟨rfl, rfl, hrb, rfl, rfl⟩ := hrr
  replace hrb := hrb.symm
  subst hrb
  replace hB := hB.mono hI8
  replace hle := hle.trans hI8
  refine ⟨_, rfl, ?_⟩
  refine RW.op1 rfl (runs_move rfl) ?_
  refine RW.op1 rfl (runs_extract rfl rfl) ?_
  refine RW.op1 rfl (runs_extract rfl rfl) ?_
  refine RW.op1 rfl (runs_extract rfl rfl) ?_
  refine RW.op1 rfl (runs_extract rfl rfl) ?_
  refine RW.opE rfl (runs_alloc ti32 hst) ?_
  rintro _ w ⟨b9, rfl, hstn⟩
  clear hst
  have hst := hstn
  clear hstn
  first
    | refine RW.opE0 (runs_storeW ti32 rfl rfl hst (k := 0) rfl rfl rfl (NoFz.zero _) rfl) ?_
    | refine RW.opE0 (runs_storeP ti32 rfl rfl hst (k := 0) rfl rfl rfl (NoFz.zero _) rfl) ?_
    | refine RW.opE0 (runs_storeW ti32 rfl rfl hst (k := 1) rfl rfl rfl (NoFz.zero _) rfl) ?_
    | refine RW.opE0 (runs_storeP ti32 rfl rfl hst (k := 1) rfl rfl rfl (NoFz.zero _) rfl) ?_
    | refine RW.opE0 (runs_storeW ti32 rfl rfl hst (k := 2) rfl rfl rfl (NoFz.zero _) rfl) ?_
    | refine RW.opE0 (runs_storeP ti32 rfl rfl hst (k := 2) rfl rfl rfl (NoFz.zero _) rfl) ?_
  rintro w hstn
  clear hst
  have hst := hstn
  clear hstn
  try simp only [List.set_cons_zero, List.set_cons_succ] at hst
  refine RW.op1 rfl (runs_assign rfl) ?_
  refine RW.op1 rfl (runs_assign rfl) ?_
  refine RW.op1 rfl (runs_assign rfl) ?_
  refine RW.done ?_
  refine AQ.next ?_
  refine CW.seq ?_
  refine CW.seq ?_
  -- region 12
  refine CW.region ?_
  refine RW.op1 rfl (runs_move rfl) ?_
  refine RW.op1 rfl (runs_neI rfl rfl) ?_
  refine RW.op1 rfl (runs_move rfl) ?_
  have hk85 := (show decide ((0 : Int) ≠ 0) = false by decide)
  refine RW.on_guard rfl rfl rfl rfl hk85 ?_
  first
    | refine RW.op1 rfl (runs_loadN (vs := [_, _]) ag32 ti32 rfl hst (k := 0) rfl rfl rfl) ?_
    | refine RW.op1 rfl (runs_loadN (vs := [_, _]) ag32 ti32 rfl hst (k := 1) rfl rfl rfl) ?_
    | refine RW.op1 rfl (runs_loadN (vs := [_, _]) ag32 ti32 rfl hst (k := 2) rfl rfl rfl) ?_
  refine RW.on_guard rfl rfl rfl rfl hk85 ?_
  first
    | refine RW.op1 rfl (runs_loadN (vs := [_, _]) ag32 ti32 rfl hst (k := 0) rfl rfl rfl) ?_
    | refine RW.op1 rfl (runs_loadN (vs := [_, _]) ag32 ti32 rfl hst (k := 1) rfl rfl rfl) ?_
    | refine RW.op1 rfl (runs_loadN (vs := [_, _]) ag32 ti32 rfl hst (k := 2) rfl rfl rfl) ?_
  refine RW.on_guard rfl rfl rfl rfl hk85 ?_
  refine RW.op1 rfl (runs_neZ (xs := [_, _]) (ys := [_, _]) ez32 rfl rfl rfl rfl) ?_
  refine RW.op1 rfl (runs_pick_false rfl hk85 rfl) ?_
  refine RW.op1 rfl (runs_move rfl) ?_
  have hk90 := (show decide (([3, 7] : List Int) ≠ [3, 7]) = false by decide)
  refine RW.on_guard rfl rfl rfl rfl hk90 ?_
  refine RW.op1 rfl (runs_move rfl) ?_
  refine RW.on_guard rfl rfl rfl rfl hk90 ?_
  refine RW.op1 rfl (runs_move rfl) ?_
  refine RW.on_guard rfl rfl rfl rfl hk90 ?_
  refine RW.call rfl call14 rfl rfl (same_spec hst hG hB (by omega)) ?_
  rintro e w ⟨rfl, hstn⟩
  clear hst
  have hst := hstn
  clear hstn
  refine ⟨_, rfl, ?_⟩
  refine RW.on_guard rfl rfl rfl rfl hk90 ?_
  refine RW.op1 rfl (runs_not rfl) ?_
  refine RW.op1 rfl (runs_pick_false rfl hk90 rfl) ?_
  refine RW.op1 rfl (runs_move rfl) ?_
  have hk96 := (show (!decide (bb = bb)) = false by simp)
  refine RW.on_guard rfl rfl rfl rfl hk96 ?_
  refine RW.op1 rfl (runs_move rfl) ?_
  refine RW.on_guard rfl rfl rfl rfl hk96 ?_
  refine RW.op1 rfl (runs_move rfl) ?_
  refine RW.on_guard rfl rfl rfl rfl hk96 ?_
  refine RW.op1 rfl (runs_neI rfl rfl) ?_
  refine RW.op1 rfl (runs_pick_false rfl hk96 rfl) ?_
  refine RW.done ?_
  refine AQ.next ?_
  refine CW.cond rfl (fun hc => absurd hc (by simp)) (fun hc => ?_)
  refine CW.skip ?_
  refine AQ.next ?_
  refine CW.seq ?_
  -- region 14
  refine CW.region ?_
  replace hst := hst.drop1
  refine RW.op1 rfl (runs_move rfl) ?_
  refine RW.op1 rfl (runs_move rfl) ?_
  refine RW.op1 rfl (runs_move rfl) ?_
  refine RW.op1 rfl (runs_sub rfl rfl (by omega)) ?_
  refine RW.call rfl call18 rfl rfl (fread_spec hd2 (hst.perm List.perm_middle.symm) (x52) (x52 + ((needN bb.length : Nat) : Int) - 1)) ?_
  rintro e w ⟨I12, v12, p1, q1, b1, n1, er1, hI12, rfl, hstn, _, hfr1⟩
  clear hst
  have hst := hstn
  clear hstn
  replace hst := hst.perm List.perm_middle
  have her1 : er1 ≠ 0 := fr_short hh hup.1 (by omega) (by rw [hl12]; omega) hfr1
  replace hB := hB.mono hI12
  replace hG := hG.mono hI12
  replace hle := hle.trans hI12
  refine ⟨_, rfl, ?_⟩
  refine RW.op1 rfl (runs_move rfl) ?_
  refine RW.op1 rfl (runs_extract rfl rfl) ?_
  refine RW.op1 rfl (runs_extract rfl rfl) ?_
  refine RW.op1 rfl (runs_extract rfl rfl) ?_
  refine RW.op1 rfl (runs_extract rfl rfl) ?_
  refine RW.opE rfl (runs_alloc ti32 hst) ?_
  rintro _ w ⟨b13, rfl, hstn⟩
  clear hst
  have hst := hstn
  clear hstn
  first
    | refine RW.opE0 (runs_storeW ti32 rfl rfl hst (k := 0) rfl rfl rfl (NoFz.zero _) rfl) ?_
    | refine RW.opE0 (runs_storeP ti32 rfl rfl hst (k := 0) rfl rfl rfl (NoFz.zero _) rfl) ?_
    | refine RW.opE0 (runs_storeW ti32 rfl rfl hst (k := 1) rfl rfl rfl (NoFz.zero _) rfl) ?_
    | refine RW.opE0 (runs_storeP ti32 rfl rfl hst (k := 1) rfl rfl rfl (NoFz.zero _) rfl) ?_
    | refine RW.opE0 (runs_storeW ti32 rfl rfl hst (k := 2) rfl rfl rfl (NoFz.zero _) rfl) ?_
    | refine RW.opE0 (runs_storeP ti32 rfl rfl hst (k := 2) rfl rfl rfl (NoFz.zero _) rfl) ?_
  rintro w hstn
  clear hst
  have hst := hstn
  clear hstn
  try simp only [List.set_cons_zero, List.set_cons_succ] at hst
  refine RW.op1 rfl (runs_assign rfl) ?_
  refine RW.op1 rfl (runs_assign rfl) ?_
  refine RW.op1 rfl (runs_assign rfl) ?_
  refine RW.done ?_
  refine AQ.next ?_
  refine CW.seq ?_
  -- region 15
  refine CW.region ?_
  replace hst := hst.drop1
  refine RW.op1 rfl (runs_move rfl) ?_
  refine RW.op1 rfl (runs_move rfl) ?_
  refine RW.call rfl call18 rfl rfl (fread_spec hd2 (hst.perm List.perm_middle.symm) (x52) (13)) ?_
  rintro e w ⟨I15, v15, p2, q2, b2, n2, er2, hI15, rfl, hstn, _, hfr2⟩
  clear hst
  have hst := hstn
  clear hstn
  replace hst := hst.perm List.perm_middle
  have ho2 := fr_out (.inr (.inr (by rw [hl12]; decide))) hfr2
  simp only [Prod.mk.injEq] at ho2
  obtain ⟨rfl, rfl, rfl, rfl, rfl⟩ := ho2
  replace hB := hB.mono hI15
  replace hG := hG.mono hI15
  replace hle := hle.trans hI15
  refine ⟨_, rfl, ?_⟩
  refine RW.op1 rfl (runs_move rfl) ?_
  refine RW.op1 rfl (runs_extract rfl rfl) ?_
  refine RW.op1 rfl (runs_extract rfl rfl) ?_
  refine RW.op1 rfl (runs_extract rfl rfl) ?_
  refine RW.op1 rfl (runs_extract rfl rfl) ?_
  refine RW.opE rfl (runs_alloc ti32 hst) ?_
  rintro _ w ⟨b16, rfl, hstn⟩
  clear hst
  have hst := hstn
  clear hstn
  first
    | refine RW.opE0 (runs_storeW ti32 rfl rfl hst (k := 0) rfl rfl rfl (NoFz.zero _) rfl) ?_
    | refine RW.opE0 (runs_storeP ti32 rfl rfl hst (k := 0) rfl rfl rfl (NoFz.zero _) rfl) ?_
    | refine RW.opE0 (runs_storeW ti32 rfl rfl hst (k := 1) rfl rfl rfl (NoFz.zero _) rfl) ?_
    | refine RW.opE0 (runs_storeP ti32 rfl rfl hst (k := 1) rfl rfl rfl (NoFz.zero _) rfl) ?_
    | refine RW.opE0 (runs_storeW ti32 rfl rfl hst (k := 2) rfl rfl rfl (NoFz.zero _) rfl) ?_
    | refine RW.opE0 (runs_storeP ti32 rfl rfl hst (k := 2) rfl rfl rfl (NoFz.zero _) rfl) ?_
  rintro w hstn
  clear hst
  have hst := hstn
  clear hstn
  try simp only [List.set_cons_zero, List.set_cons_succ] at hst
  refine RW.op1 rfl (runs_assign rfl) ?_
  refine RW.op1 rfl (runs_assign rfl) ?_
  refine RW.op1 rfl (runs_assign rfl) ?_
  refine RW.done ?_
  refine AQ.next ?_
  refine CW.seq ?_
  -- region 16
  refine CW.region ?_
  replace hst := hst.drop1
  refine RW.op1 rfl (runs_move rfl) ?_
  refine RW.op1 rfl (runs_move rfl) ?_
  refine RW.op1 rfl (runs_move rfl) ?_
  refine RW.call rfl call18 rfl rfl (fread_spec hd2 (hst.perm List.perm_middle.symm) (x52 + ((needN bb.length : Nat) : Int)) (x52 + ((needN bb.length : Nat) : Int))) ?_
  rintro e w ⟨I18, v18, p3, q3, b3, n3, er3, hI18, rfl, hstn, _, hfr3⟩
  clear hst
  have hst := hstn
  clear hstn
  replace hst := hst.perm List.perm_middle
  have ho3 := fr_out (.inr (.inl (Int.le_refl _))) hfr3
  simp only [Prod.mk.injEq] at ho3
  obtain ⟨rfl, rfl, rfl, rfl, rfl⟩ := ho3
  replace hB := hB.mono hI18
  replace hG := hG.mono hI18
  replace hle := hle.trans hI18
  refine ⟨_, rfl, ?_⟩
  refine RW.op1 rfl (runs_move rfl) ?_
  refine RW.op1 rfl (runs_extract rfl rfl) ?_
  refine RW.op1 rfl (runs_extract rfl rfl) ?_
  refine RW.op1 rfl (runs_extract rfl rfl) ?_
  refine RW.op1 rfl (runs_extract rfl rfl) ?_
  refine RW.opE rfl (runs_alloc ti32 hst) ?_
  rintro _ w ⟨b19, rfl, hstn⟩
  clear hst
  have hst := hstn
  clear hstn
  first
    | refine RW.opE0 (runs_storeW ti32 rfl rfl hst (k := 0) rfl rfl rfl (NoFz.zero _) rfl) ?_
    | refine RW.opE0 (runs_storeP ti32 rfl rfl hst (k := 0) rfl rfl rfl (NoFz.zero _) rfl) ?_
    | refine RW.opE0 (runs_storeW ti32 rfl rfl hst (k := 1) rfl rfl rfl (NoFz.zero _) rfl) ?_
    | refine RW.opE0 (runs_storeP ti32 rfl rfl hst (k := 1) rfl rfl rfl (NoFz.zero _) rfl) ?_
    | refine RW.opE0 (runs_storeW ti32 rfl rfl hst (k := 2) rfl rfl rfl (NoFz.zero _) rfl) ?_
    | refine RW.opE0 (runs_storeP ti32 rfl rfl hst (k := 2) rfl rfl rfl (NoFz.zero _) rfl) ?_
  rintro w hstn
  clear hst
  have hst := hstn
  clear hstn
  try simp only [List.set_cons_zero, List.set_cons_succ] at hst
  refine RW.op1 rfl (runs_assign rfl) ?_
  refine RW.op1 rfl (runs_assign rfl) ?_
  refine RW.op1 rfl (runs_assign rfl) ?_
  refine RW.done ?_
  refine AQ.next ?_
  refine CW.seq ?_
  -- region 17
  refine CW.region ?_
  replace hst := hst.drop1
  refine RW.op1 rfl (runs_move rfl) ?_
  refine RW.call rfl call18 rfl rfl (fread_spec hd2 (hst.perm List.perm_middle.symm) (-1) (5)) ?_
  rintro e w ⟨I21, v21, p4, q4, b4, n4, er4, hI21, rfl, hstn, _, hfr4⟩
  clear hst
  have hst := hstn
  clear hstn
  replace hst := hst.perm List.perm_middle
  have ho4 := fr_out (.inl (by decide)) hfr4
  simp only [Prod.mk.injEq] at ho4
  obtain ⟨rfl, rfl, rfl, rfl, rfl⟩ := ho4
  replace hB := hB.mono hI21
  replace hG := hG.mono hI21
  replace hle := hle.trans hI21
  refine ⟨_, rfl, ?_⟩
  refine RW.op1 rfl (runs_move rfl) ?_
  refine RW.op1 rfl (runs_extract rfl rfl) ?_
  refine RW.op1 rfl (runs_extract rfl rfl) ?_
  refine RW.op1 rfl (runs_extract rfl rfl) ?_
  refine RW.op1 rfl (runs_extract rfl rfl) ?_
  refine RW.opE rfl (runs_alloc ti32 hst) ?_
  rintro _ w ⟨b22, rfl, hstn⟩
  clear hst
  have hst := hstn
  clear hstn
  first
    | refine RW.opE0 (runs_storeW ti32 rfl rfl hst (k := 0) rfl rfl rfl (NoFz.zero _) rfl) ?_
    | refine RW.opE0 (runs_storeP ti32 rfl rfl hst (k := 0) rfl rfl rfl (NoFz.zero _) rfl) ?_
    | refine RW.opE0 (runs_storeW ti32 rfl rfl hst (k := 1) rfl rfl rfl (NoFz.zero _) rfl) ?_
    | refine RW.opE0 (runs_storeP ti32 rfl rfl hst (k := 1) rfl rfl rfl (NoFz.zero _) rfl) ?_
    | refine RW.opE0 (runs_storeW ti32 rfl rfl hst (k := 2) rfl rfl rfl (NoFz.zero _) rfl) ?_
    | refine RW.opE0 (runs_storeP ti32 rfl rfl hst (k := 2) rfl rfl rfl (NoFz.zero _) rfl) ?_
  rintro w hstn
  clear hst
  have hst := hstn
  clear hstn
  try simp only [List.set_cons_zero, List.set_cons_succ] at hst
  refine RW.op1 rfl (runs_assign rfl) ?_
  refine RW.op1 rfl (runs_assign rfl) ?_
  refine RW.op1 rfl (runs_assign rfl) ?_
  refine RW.done ?_
  refine AQ.next ?_
  refine CW.seq ?_
  refine CW.seq ?_
  -- region 18
  refine CW.region ?_
  replace hst := hst.drop1
  refine RW.op1 rfl (runs_move rfl) ?_
  refine RW.op1 rfl (runs_eqI rfl rfl) ?_
  refine RW.op1 rfl (runs_move rfl) ?_
  have hk137 := (show decide (er1 = 0) = false by simp [her1])
  refine RW.on_guard rfl rfl rfl rfl hk137 ?_
  refine RW.op1 rfl (runs_move rfl) ?_
  refine RW.on_guard rfl rfl rfl rfl hk137 ?_
  refine RW.op1 rfl (runs_neI rfl rfl) ?_
  refine RW.op1 rfl (runs_pick_false rfl hk137 rfl) ?_
  refine RW.op1 rfl (runs_move rfl) ?_
  have hk141 := (show decide ((9 : Int) ≠ 9) = false by decide)
  refine RW.on_guard rfl rfl rfl rfl hk141 ?_
  refine RW.op1 rfl (runs_move rfl) ?_
  refine RW.on_guard rfl rfl rfl rfl hk141 ?_
  refine RW.op1 rfl (runs_neI rfl rfl) ?_
  refine RW.op1 rfl (runs_pick_false rfl hk141 rfl) ?_
  refine RW.op1 rfl (runs_move rfl) ?_
  have hk145 := (show decide ((9 : Int) ≠ 9) = false by decide)
  refine RW.on_guard rfl rfl rfl rfl hk145 ?_
  refine RW.op1 rfl (runs_move rfl) ?_
  refine RW.on_guard rfl rfl rfl rfl hk145 ?_
  refine RW.op1 rfl (runs_neI rfl rfl) ?_
  refine RW.op1 rfl (runs_pick_false rfl hk145 rfl) ?_
  refine RW.done ?_
  refine AQ.next ?_
  refine CW.cond rfl (fun hc => absurd hc (by decide)) (fun hc => ?_)
  refine CW.skip ?_
  refine AQ.next ?_
  refine CW.seq ?_
  -- region 20
  refine CW.region ?_
  refine RW.op1 rfl (runs_move rfl) ?_
  refine RW.op1 rfl (runs_move rfl) ?_
  refine RW.op1 rfl (runs_move rfl) ?_
  refine RW.op1 rfl (runs_move rfl) ?_
  refine RW.op1 rfl (runs_move rfl) ?_
  refine RW.op1 rfl (runs_sub rfl rfl (by omega)) ?_
  rw [show x52 + ((needN bb.length : Nat) : Int) - x52 = ((needN bb.length : Nat) : Int) by omega]
  refine RW.call rfl call13 rfl rfl (within_spec hst (v := k) (n := ((needN bb.length : Nat) : Int)) (hkk) (by unfold i64ok; omega)) ?_
  rintro e w ⟨rfl, hstn⟩
  clear hst
  have hst := hstn
  clear hstn
  have hw155 := within_range (k) (((needN bb.length : Nat) : Int))
  generalize hx155 : within (k) (((needN bb.length : Nat) : Int)) = x155 at *
  obtain ⟨k0, rfl⟩ : ∃ m : Nat, x155 = m := ⟨x155.toNat, by omega⟩
  have hkN : k0 < needN bb.length := by omega
  refine ⟨_, rfl, ?_⟩
  refine RW.op1 rfl (runs_add rfl rfl (by omega)) ?_
  refine RW.op1 rfl (runs_assign rfl) ?_
  refine RW.done ?_
  refine AQ.next ?_
  refine CW.seq ?_
  -- region 21
  refine CW.region ?_
  refine RW.op1 rfl (runs_move rfl) ?_
  refine RW.op1 rfl (runs_move rfl) ?_
  refine RW.call rfl call12 rfl rfl (read_own hd2 (hst.perm List.perm_middle.symm) (x52 + (k0 : Int))) ?_
  rintro e w ⟨I25, vs, Ls, hI25, rfl, hstn, hgS⟩
  clear hst
  have hst := hstn
  clear hstn
  replace hst := hst.perm (List.Perm.append_left Ls List.perm_middle)
  have hm0 : mayR (recS x52 bb) (x52 + (k0 : Int)) = 0 := may_in hup.1 (by omega) (by rw [hl12]; omega)
  rw [if_pos hm0, hh.2.2 k0 hkN] at hgS
  rw [hm0]
  have hsl32 : (secB 3 7 bb k0).length = 32 := secB_len (by decide) (by omega) hkN
  have hgS0 := hgS
  obtain ⟨g, cap, cur, rfl, rfl, hcs, hget, hset⟩ := GrowB.opened hgS0 (by omega)
  replace hB := hB.mono hI25
  replace hG := hG.mono hI25
  replace hle := hle.trans hI25
  refine ⟨_, rfl, ?_⟩
  refine RW.op1 rfl (runs_move rfl) ?_
  refine RW.op1 rfl (runs_extract rfl rfl) ?_
  refine RW.op1 rfl (runs_extract rfl rfl) ?_
  refine RW.op1 rfl (runs_assign rfl) ?_
  refine RW.op1 rfl (runs_assign rfl) ?_
  refine RW.done ?_
  refine AQ.next ?_
  refine CW.seq ?_
  refine CW.seq ?_
  -- region 22
  refine CW.region ?_
  refine RW.op1 rfl (runs_move rfl) ?_
  refine RW.op1 rfl (runs_neI rfl rfl) ?_
  refine RW.op1 rfl (runs_move rfl) ?_
  have hk165 := (show decide ((0 : Int) ≠ 0) = false by decide)
  refine RW.on_guard rfl rfl rfl rfl hk165 ?_
  refine RW.op1 rfl (runs_move rfl) ?_
  refine RW.on_guard rfl rfl rfl rfl hk165 ?_
  refine RW.op1 rfl (Grow.len Try.underlying24 rfl hgS) ?_
  refine RW.on_guard rfl rfl rfl rfl hk165 ?_
  refine RW.op1 rfl (runs_neI rfl rfl) ?_
  refine RW.op1 rfl (runs_pick_false rfl hk165 rfl) ?_
  refine RW.done ?_
  refine AQ.next ?_
  refine CW.cond rfl (fun hc => absurd hc (by simp [hsl32])) (fun hc => ?_)
  refine CW.skip ?_
  refine AQ.next ?_
  refine CW.seq ?_
  -- region 24
  refine CW.region ?_
  obtain ⟨IL, hIL, hstn, hxS, back⟩ := GrowB.lend hgS hst
  clear hst
  have hst := hstn
  clear hstn
  have hle0 := hle
  replace hle := hle.trans hIL
  refine RW.op1 rfl (runs_move rfl) ?_
  refine RW.call rfl call19 rfl rfl (open_spec hst hxS (by omega)) ?_
  rintro e w ⟨IB, vc, hIB, rfl, hstn, hC⟩
  clear hst
  have hst := hstn
  clear hstn
  rw [secB_open (by decide) (by omega) hkN] at hC ⊢
  dsimp only at hC ⊢
  replace hle := hle.trans hIB
  refine ⟨_, rfl, ?_⟩
  refine RW.op1 rfl (runs_move rfl) ?_
  refine RW.op1 rfl (runs_extract rfl rfl) ?_
  refine RW.op1 rfl (runs_extract rfl rfl) ?_
  refine RW.op1 rfl (runs_extract rfl rfl) ?_
  refine RW.op1 rfl (runs_extract rfl rfl) ?_
  refine RW.op1 rfl (runs_extract rfl rfl) ?_
  refine RW.opE rfl (runs_alloc ti32 hst) ?_
  rintro _ w ⟨b27, rfl, hstn⟩
  clear hst
  have hst := hstn
  clear hstn
  first
    | refine RW.opE0 (runs_storeW ti32 rfl rfl hst (k := 0) rfl rfl rfl (NoFz.zero _) rfl) ?_
    | refine RW.opE0 (runs_storeP ti32 rfl rfl hst (k := 0) rfl rfl rfl (NoFz.zero _) rfl) ?_
    | refine RW.opE0 (runs_storeW ti32 rfl rfl hst (k := 1) rfl rfl rfl (NoFz.zero _) rfl) ?_
    | refine RW.opE0 (runs_storeP ti32 rfl rfl hst (k := 1) rfl rfl rfl (NoFz.zero _) rfl) ?_
    | refine RW.opE0 (runs_storeW ti32 rfl rfl hst (k := 2) rfl rfl rfl (NoFz.zero _) rfl) ?_
    | refine RW.opE0 (runs_storeP ti32 rfl rfl hst (k := 2) rfl rfl rfl (NoFz.zero _) rfl) ?_
  rintro w hstn
  clear hst
  have hst := hstn
  clear hstn
  try simp only [List.set_cons_zero, List.set_cons_succ] at hst
  refine RW.op1 rfl (runs_assign rfl) ?_
  refine RW.op1 rfl (runs_assign rfl) ?_
  refine RW.op1 rfl (runs_assign rfl) ?_
  refine RW.op1 rfl (runs_assign rfl) ?_
  refine RW.done ?_
  refine AQ.next ?_
  refine CW.seq ?_
  refine CW.seq ?_
  -- region 25
  refine CW.region ?_
  refine RW.op1 rfl (runs_move rfl) ?_
  refine RW.op1 rfl (runs_neI rfl rfl) ?_
  refine RW.done ?_
  refine AQ.next ?_
  refine CW.cond rfl (fun hc => absurd hc (by decide)) (fun hc => ?_)
  refine CW.skip ?_
  refine AQ.next ?_
  refine CW.seq ?_
  refine CW.seq ?_
  -- region 27
  refine CW.region ?_
  replace hst := hst.drop1
  refine RW.op1 rfl (runs_move rfl) ?_
  refine RW.op1 rfl (runs_move rfl) ?_
  refine RW.call rfl call13 rfl rfl (within_spec hst (v := how) (n := 4) (hhow) (by unfold i64ok; omega)) ?_
  rintro e w ⟨rfl, hstn⟩
  clear hst
  have hst := hstn
  clear hstn
  have hw182 := within_range (how) (4)
  generalize hx182 : within (how) (4) = x182 at *
  refine ⟨_, rfl, ?_⟩
  refine RW.done ?_
  refine AQ.next ?_
  refine CW.block ?_
  refine CW.seq ?_
  -- region 29
  refine CW.region ?_
  refine RW.op1 rfl (runs_eqI rfl rfl) ?_
  refine RW.op1 rfl (runs_assign rfl) ?_
  refine RW.done ?_
  refine AQ.next ?_
  refine CW.cut (Imm × Value × List UInt8) (fun y w => I.le y.1 ∧ St w0 w y.1 ((b5, .cells #[.int .i64 3, .int .i64 7] 32) :: (Ld2 ++ L)) ∧ RdB y.1 y.2.1 y.2.2 ∧ ZR x182 bb k0 y.2.2) (fun y => [(2, .int .i64 x52), (3, .int .i64 (x52 + (k0 : Int))), (4, .int .i64 how), (11, .func (.func 13) #[] #[]), (12, .pointer (some a1)), (36, y.2.1), (39, .int .i64 ((needN bb.length : Nat) : Int))]) ?_ ?_
  · refine CW.cond rfl (fun hc192 => ?_) (fun hc192 => ?_)
    · have hcb192 := hc192
      try simp only [decide_eq_true_eq, decide_eq_false_iff_not] at hc192
      refine CW.seq ?_
      -- region 30
      refine CW.region ?_
      obtain ⟨JB, hJB, _, hstn⟩ := back _ _ _ hIB hst
      clear hst
      have hst := hstn
      clear hstn hle
      have hle := hle0.trans hJB
      simp only [List.cons_append, List.nil_append] at hst
      refine RW.op1 rfl (runs_move rfl) ?_
      refine RW.op1 rfl (runs_move rfl) ?_
      refine RW.op1 rfl (runs_quo rfl rfl (by decide)) ?_
      refine RW.call rfl call13 rfl rfl (within_spec hst (v := IntKind.i64.wrap (how.tdiv 4)) (n := 32) (i64ok_wrap _) (by unfold i64ok; omega)) ?_
      rintro e w ⟨rfl, hstn⟩
      clear hst
      have hst := hstn
      clear hstn
      have hw197 := within_range (IntKind.i64.wrap (how.tdiv 4)) (32)
      generalize hx197 : within (IntKind.i64.wrap (how.tdiv 4)) (32) = x197 at *
      obtain ⟨k7, rfl⟩ : ∃ m : Nat, x197 = m := ⟨x197.toNat, by omega⟩
      refine ⟨_, rfl, ?_⟩
      refine RW.op1 rfl (runs_assign rfl) ?_
      refine RW.done ?_
      refine AQ.next ?_
      refine CW.seq ?_
      refine CW.seq ?_
      -- region 31
      refine CW.region ?_
      refine RW.op1 rfl (runs_move rfl) ?_
      refine RW.op1 rfl (runs_eqI rfl rfl) ?_
      refine RW.done ?_
      refine AQ.next ?_
      refine CW.cut Nat (fun y w => St w0 w JB ((g, .cells cur 5) :: ((b5, .cells #[.int .i64 3, .int .i64 7] 32) :: (Ld2 ++ L))) ∧ y < 32 ∧ y ≠ 7) (fun y => [(2, .int .i64 x52), (3, .int .i64 (x52 + (k0 : Int))), (4, .int .i64 how), (11, .func (.func 13) #[] #[]), (12, .pointer (some a1)), (36, .slice (some ⟨g, 0, none⟩) (secB 3 7 bb k0).length cap), (39, .int .i64 ((needN bb.length : Nat) : Int)), (41, .int .i64 (y : Nat))]) ?_ ?_
      · refine CW.cond rfl (fun hc199 => ?_) (fun hc199 => ?_)
        · have hcb199 := hc199
          try simp only [decide_eq_true_eq, decide_eq_false_iff_not] at hc199
          -- region 32
          refine CW.region ?_
          refine RW.op1 rfl (runs_assign rfl) ?_
          refine RW.done ?_
          first
            | exact AQ.meet 6 ⟨hst, by decide, by decide⟩ ⟨rfl, rfl, rfl, rfl, rfl, rfl, rfl, rfl, trivial⟩
            | exact AQ.meet k7 ⟨hst, by omega, by omega⟩ ⟨rfl, rfl, rfl, rfl, rfl, rfl, rfl, rfl, trivial⟩
        · have hcb199 := hc199
          try simp only [decide_eq_true_eq, decide_eq_false_iff_not] at hc199
          refine CW.skip ?_
          first
            | exact AQ.meet 6 ⟨hst, by decide, by decide⟩ ⟨rfl, rfl, rfl, rfl, rfl, rfl, rfl, rfl, trivial⟩
            | exact AQ.meet k7 ⟨hst, by omega, by omega⟩ ⟨rfl, rfl, rfl, rfl, rfl, rfl, rfl, rfl, trivial⟩
      · rintro y7 w ⟨hstn, hy7⟩
        clear hst
        have hst := hstn
        clear hstn
        have hgp := hget y7 (by omega)
        refine AQ.next ?_
        -- region 33
        refine CW.draw (fun _ => True) (.q 0 (.q 1 (.q 2 (.q 4 (.q 5 (.fork (.l 3 (.l 6 (.q 7 (.q 8 (.q 9 (.q 10 (.l 11 .nil))))))) (.l 6 (.q 7 (.q 8 (.l 3 (.q 9 (.q 10 (.l 11 .nil))))))))))))) follows (by kernel_rfl) trivial ?_
        replace hst := hst.draw
        refine DRW.q rfl rfl (fun w' hF => runs_move rfl) ?_
        refine DRW.q rfl rfl (fun w' hF => runs_move rfl) ?_
        refine DRW.q rfl rfl (fun w' hF => runs_indexAddr0 Try.underlying24 ti5 rfl rfl (by omega)) ?_
        refine DRW.q rfl rfl (fun w' hF => runs_move rfl) ?_
        refine DRW.q rfl rfl (fun w' hF => runs_move rfl) ?_
        refine DRW.fork ?_ ?_
        · refine DRW.op1 rfl rfl (runs_load1 sc5 rfl (hst.cell_own (k := 0) rfl (by rw [Nat.zero_add, Nat.mul_one]; exact hgp))) trivial ?_
          refine DRW.call rfl rfl call13 rfl rfl (within_spec hst (v := how) (n := 255) (hhow) (by unfold i64ok; omega)) ?_
          rintro e w ⟨rfl, hstn⟩
          clear hst
          have hst := hstn
          clear hstn
          have hw206 := within_range (how) (255)
          generalize hx206 : within (how) (255) = x206 at *
          refine ⟨_, rfl, trivial, ?_⟩
          refine DRW.q rfl rfl (fun w' hF => runs_add rfl rfl (by omega)) ?_
          refine DRW.q rfl rfl (fun w' hF => runs_convB (by rw [Try.underlying3]; rfl) Try.underlying5 rfl) ?_
          refine DRW.q rfl rfl (fun w' hF => runs_xor rfl rfl) ?_
          refine DRW.q rfl rfl (fun w' hF => runs_indexAddr0 Try.underlying24 ti5 rfl rfl (by omega)) ?_
          refine DRW.opE0 rfl (runs_store1' ti5 rfl rfl hst (k := 0) rfl (by omega) (NoFz.zero _) rfl) ?_
          rintro w hstn
          clear hst
          have hst := hstn
          clear hstn
          try simp only [List.set_cons_zero, List.set_cons_succ] at hst
          refine ⟨trivial, ?_⟩
          refine DRW.done ?_
          first
            | exact AQ.meet (_, _, _) ⟨hle, hst, hzd, hz⟩ ⟨rfl, rfl, rfl, rfl, rfl, rfl, rfl, trivial⟩
            | (rw [xor8] at hst
               simp only [Nat.zero_add, Nat.mul_one, List.cons_append, List.nil_append, List.set_cons_zero, Int.toNat_natCast] at hst
               obtain ⟨I20, hI20, hstn, hzd⟩ := GrowB.freeze (hset y7 ((secB 3 7 bb k0).getD y7 0 ^^^ u8 (1 + x206)) (by omega)) hst
               exact AQ.meet (_, _, _) ⟨hle.trans hI20, hstn, hzd, .inl ⟨hc192, y7, _, hy7.1, hy7.2, xor_ne (by omega), rfl⟩⟩ ⟨rfl, rfl, rfl, rfl, rfl, rfl, rfl, trivial⟩)
        refine DRW.call rfl rfl call13 rfl rfl (within_spec hst (v := how) (n := 255) (hhow) (by unfold i64ok; omega)) ?_
        rintro e w ⟨rfl, hstn⟩
        clear hst
        have hst := hstn
        clear hstn
        have hw206 := within_range (how) (255)
        generalize hx206 : within (how) (255) = x206 at *
        refine ⟨_, rfl, trivial, ?_⟩
        refine DRW.q rfl rfl (fun w' hF => runs_add rfl rfl (by omega)) ?_
        refine DRW.q rfl rfl (fun w' hF => runs_convB (by rw [Try.underlying3]; rfl) Try.underlying5 rfl) ?_
        refine DRW.op1 rfl rfl (runs_load1 sc5 rfl (hst.cell_own (k := 0) rfl (by rw [Nat.zero_add, Nat.mul_one]; exact hgp))) trivial ?_
        refine DRW.q rfl rfl (fun w' hF => runs_xor rfl rfl) ?_
        refine DRW.q rfl rfl (fun w' hF => runs_indexAddr0 Try.underlying24 ti5 rfl rfl (by omega)) ?_
        refine DRW.opE0 rfl (runs_store1' ti5 rfl rfl hst (k := 0) rfl (by omega) (NoFz.zero _) rfl) ?_
        rintro w hstn
        clear hst
        have hst := hstn
        clear hstn
        try simp only [List.set_cons_zero, List.set_cons_succ] at hst
        refine ⟨trivial, ?_⟩
        refine DRW.done ?_
        first
          | exact AQ.meet (_, _, _) ⟨hle, hst, hzd, hz⟩ ⟨rfl, rfl, rfl, rfl, rfl, rfl, rfl, trivial⟩
          | (rw [xor8] at hst
             simp only [Nat.zero_add, Nat.mul_one, List.cons_append, List.nil_append, List.set_cons_zero, Int.toNat_natCast] at hst
             obtain ⟨I20, hI20, hstn, hzd⟩ := GrowB.freeze (hset y7 ((secB 3 7 bb k0).getD y7 0 ^^^ u8 (1 + x206)) (by omega)) hst
             exact AQ.meet (_, _, _) ⟨hle.trans hI20, hstn, hzd, .inl ⟨hc192, y7, _, hy7.1, hy7.2, xor_ne (by omega), rfl⟩⟩ ⟨rfl, rfl, rfl, rfl, rfl, rfl, rfl, trivial⟩)
    · have hcb192 := hc192
      try simp only [decide_eq_true_eq, decide_eq_false_iff_not] at hc192
      refine CW.seq ?_
      -- region 34
      refine CW.region ?_
      refine RW.op1 rfl (runs_eqI rfl rfl) ?_
      refine RW.op1 rfl (runs_assign rfl) ?_
      refine RW.done ?_
      refine AQ.next ?_
      refine CW.cond rfl (fun hc211 => ?_) (fun hc211 => ?_)
      · have hcb211 := hc211
        try simp only [decide_eq_true_eq, decide_eq_false_iff_not] at hc211
        -- region 35
        refine CW.region ?_
        refine RW.op1 rfl (runs_buildF (cells := [_, _]) bz32 rfl rfl rfl rfl rfl) ?_
        refine RW.op1 rfl (runs_move rfl) ?_
        refine RW.op1 rfl (runs_move rfl) ?_
        refine RW.op1 rfl (runs_move rfl) ?_
        refine RW.call rfl call20 rfl rfl (seal_spec hst 3 8 (k0 : Int) ((needN bb.length : Nat) : Int) hC (by have := partB_len bb k0; omega)) ?_
        rintro e w ⟨I35, vS, hI35, rfl, hstn, hzd⟩
        clear hst
        have hst := hstn
        clear hstn
        rw [if_pos (seal_as (by decide) (by decide) hkN (by omega))] at hzd
        have hz : ZR x182 bb k0 (sealB 3 8 (k0 : Int) ((needN bb.length : Nat) : Int) (partB bb k0)) := .inr (.inl ⟨hc211, rfl⟩)
        replace hC := hC.mono hI35
        replace hle := hle.trans hI35
        refine ⟨_, rfl, ?_⟩
        refine RW.op1 rfl (runs_move rfl) ?_
        refine RW.op1 rfl (runs_extract rfl rfl) ?_
        refine RW.op1 rfl (runs_extract rfl rfl) ?_
        refine RW.op1 rfl (runs_assign rfl) ?_
        refine RW.done ?_
        first
          | exact AQ.meet (_, _, _) ⟨hle, hst, hzd, hz⟩ ⟨rfl, rfl, rfl, rfl, rfl, rfl, rfl, trivial⟩
          | (rw [xor8] at hst
             simp only [Nat.zero_add, Nat.mul_one, List.cons_append, List.nil_append, List.set_cons_zero, Int.toNat_natCast] at hst
             obtain ⟨I20, hI20, hstn, hzd⟩ := GrowB.freeze (hset y7 ((secB 3 7 bb k0).getD y7 0 ^^^ u8 (1 + x206)) (by omega)) hst
             exact AQ.meet (_, _, _) ⟨hle.trans hI20, hstn, hzd, .inl ⟨hc192, y7, _, hy7.1, hy7.2, xor_ne (by omega), rfl⟩⟩ ⟨rfl, rfl, rfl, rfl, rfl, rfl, rfl, trivial⟩)
      · have hcb211 := hc211
        try simp only [decide_eq_true_eq, decide_eq_false_iff_not] at hc211
        refine CW.seq ?_
        -- region 36
        refine CW.region ?_
        refine RW.op1 rfl (runs_eqI rfl rfl) ?_
        refine RW.op1 rfl (runs_assign rfl) ?_
        refine RW.done ?_
        refine AQ.next ?_
        refine CW.cond rfl (fun hc221 => ?_) (fun hc221 => ?_)
        · have hcb221 := hc221
          try simp only [decide_eq_true_eq, decide_eq_false_iff_not] at hc221
          refine CW.seq ?_
          -- region 37
          refine CW.region ?_
          refine RW.op1 rfl (runs_buildF (cells := [_, _]) bz32 rfl rfl rfl rfl rfl) ?_
          refine RW.op1 rfl (runs_move rfl) ?_
          refine RW.op1 rfl (runs_move rfl) ?_
          refine RW.op1 rfl (runs_move rfl) ?_
          refine RW.call rfl call20 rfl rfl (seal_spec hst 4 7 (k0 : Int) ((needN bb.length : Nat) : Int) hC (by have := partB_len bb k0; omega)) ?_
          rintro e w ⟨I36, vS, hI36, rfl, hstn, hzd⟩
          clear hst
          have hst := hstn
          clear hstn
          rw [if_pos (seal_as (by decide) (by decide) hkN (by omega))] at hzd
          replace hC := hC.mono hI36
          replace hle := hle.trans hI36
          refine ⟨_, rfl, ?_⟩
          refine RW.op1 rfl (runs_move rfl) ?_
          refine RW.op1 rfl (runs_extract rfl rfl) ?_
          refine RW.op1 rfl (runs_extract rfl rfl) ?_
          refine RW.op1 rfl (runs_assign rfl) ?_
          refine RW.done ?_
          refine AQ.next ?_
          refine CW.seq ?_
          -- region 38
          refine CW.region ?_
          refine RW.op1 rfl (runs_move rfl) ?_
          refine RW.op1 rfl (runs_eqI rfl rfl) ?_
          refine RW.done ?_
          refine AQ.next ?_
          refine CW.cond rfl (fun hc232 => ?_) (fun hc232 => ?_)
          · have hcb232 := hc232
            try simp only [decide_eq_true_eq, decide_eq_false_iff_not] at hc232
            skip
            -- region 39
            refine CW.region ?_
            refine RW.opE rfl (runs_makeSlice (n := 32) Try.underlying24 ti5 rfl hst (by omega) (by unfold maxLen; omega)) ?_
            rintro _ w ⟨bz, rfl, hstn⟩
            clear hst
            have hst := hstn
            clear hstn
            clear hzd
            rw [made_b8] at hst
            obtain ⟨IZ, hIZ, hstn, hzd⟩ := RdB.of_block (n := 32) (by simp) hst (by unfold maxLen; omega)
            clear hst
            have hst := hstn
            clear hstn
            replace hle := hle.trans hIZ
            have hz : ZR x182 bb k0 zr32 := .inr (.inr (.inl ⟨hc221, by omega, rfl⟩))
            refine RW.op1 rfl (runs_assign rfl) ?_
            refine RW.done ?_
            first
              | exact AQ.meet (_, _, _) ⟨hle, hst, hzd, hz⟩ ⟨rfl, rfl, rfl, rfl, rfl, rfl, rfl, trivial⟩
              | (rw [xor8] at hst
                 simp only [Nat.zero_add, Nat.mul_one, List.cons_append, List.nil_append, List.set_cons_zero, Int.toNat_natCast] at hst
                 obtain ⟨I20, hI20, hstn, hzd⟩ := GrowB.freeze (hset y7 ((secB 3 7 bb k0).getD y7 0 ^^^ u8 (1 + x206)) (by omega)) hst
                 exact AQ.meet (_, _, _) ⟨hle.trans hI20, hstn, hzd, .inl ⟨hc192, y7, _, hy7.1, hy7.2, xor_ne (by omega), rfl⟩⟩ ⟨rfl, rfl, rfl, rfl, rfl, rfl, rfl, trivial⟩)
          · have hcb232 := hc232
            try simp only [decide_eq_true_eq, decide_eq_false_iff_not] at hc232
            have hz : ZR x182 bb k0 (sealB 4 7 (k0 : Int) ((needN bb.length : Nat) : Int) (partB bb k0)) := .inr (.inr (.inr (.inl ⟨hc221, by omega, rfl⟩)))
            refine CW.skip ?_
            first
              | exact AQ.meet (_, _, _) ⟨hle, hst, hzd, hz⟩ ⟨rfl, rfl, rfl, rfl, rfl, rfl, rfl, trivial⟩
              | (rw [xor8] at hst
                 simp only [Nat.zero_add, Nat.mul_one, List.cons_append, List.nil_append, List.set_cons_zero, Int.toNat_natCast] at hst
                 obtain ⟨I20, hI20, hstn, hzd⟩ := GrowB.freeze (hset y7 ((secB 3 7 bb k0).getD y7 0 ^^^ u8 (1 + x206)) (by omega)) hst
                 exact AQ.meet (_, _, _) ⟨hle.trans hI20, hstn, hzd, .inl ⟨hc192, y7, _, hy7.1, hy7.2, xor_ne (by omega), rfl⟩⟩ ⟨rfl, rfl, rfl, rfl, rfl, rfl, rfl, trivial⟩)
        · have hcb221 := hc221
          try simp only [decide_eq_true_eq, decide_eq_false_iff_not] at hc221
          -- region 28
          refine CW.region ?_
          first
            | refine RW.op1 rfl (runs_loadN (vs := [_, _]) ag32 ti32 rfl hst (k := 0) rfl rfl rfl) ?_
            | refine RW.op1 rfl (runs_loadN (vs := [_, _]) ag32 ti32 rfl hst (k := 1) rfl rfl rfl) ?_
            | refine RW.op1 rfl (runs_loadN (vs := [_, _]) ag32 ti32 rfl hst (k := 2) rfl rfl rfl) ?_
          refine RW.op1 rfl (runs_move rfl) ?_
          refine RW.op1 rfl (runs_move rfl) ?_
          refine RW.op1 rfl (runs_add rfl rfl (by omega)) ?_
          refine RW.op1 rfl (runs_move rfl) ?_
          refine RW.call rfl call20 rfl rfl (seal_spec hst 3 7 (k0 : Int) (((needN bb.length : Nat) : Int) + 1) hC (by have := partB_len bb k0; omega)) ?_
          rintro e w ⟨I38, vS, hI38, rfl, hstn, hzd⟩
          clear hst
          have hst := hstn
          clear hstn
          rw [if_pos (seal_as (by decide) (by decide) hkN (by omega))] at hzd
          have hz : ZR x182 bb k0 (sealB 3 7 (k0 : Int) (((needN bb.length : Nat) : Int) + 1) (partB bb k0)) := .inr (.inr (.inr (.inr ⟨hc192, hc211, hc221, rfl⟩)))
          replace hC := hC.mono hI38
          replace hle := hle.trans hI38
          refine ⟨_, rfl, ?_⟩
          refine RW.op1 rfl (runs_move rfl) ?_
          refine RW.op1 rfl (runs_extract rfl rfl) ?_
          refine RW.op1 rfl (runs_extract rfl rfl) ?_
          refine RW.op1 rfl (runs_assign rfl) ?_
          refine RW.done ?_
          first
            | exact AQ.meet (_, _, _) ⟨hle, hst, hzd, hz⟩ ⟨rfl, rfl, rfl, rfl, rfl, rfl, rfl, trivial⟩
            | (rw [xor8] at hst
               simp only [Nat.zero_add, Nat.mul_one, List.cons_append, List.nil_append, List.set_cons_zero, Int.toNat_natCast] at hst
               obtain ⟨I20, hI20, hstn, hzd⟩ := GrowB.freeze (hset y7 ((secB 3 7 bb k0).getD y7 0 ^^^ u8 (1 + x206)) (by omega)) hst
               exact AQ.meet (_, _, _) ⟨hle.trans hI20, hstn, hzd, .inl ⟨hc192, y7, _, hy7.1, hy7.2, xor_ne (by omega), rfl⟩⟩ ⟨rfl, rfl, rfl, rfl, rfl, rfl, rfl, trivial⟩)
  · clear hle
    rintro ⟨J, vz, z⟩ w ⟨hle, hstn, hzz, hzr⟩
    dsimp only at hle hstn hzz hzr ⊢
    clear hst
    have hst := hstn
    clear hstn
    have hzl := hzr.len hkN hn6
    refine AQ.block_normal ?_
    refine AQ.next ?_
    refine CW.seq ?_
    refine CW.seq ?_
    -- region 40
    refine CW.region ?_
    refine RW.op1 rfl (runs_move rfl) ?_
    refine RW.op1 rfl (RdL.len Try.underlying24 rfl hzz) ?_
    refine RW.op1 rfl (runs_neI rfl rfl) ?_
    refine RW.op1 rfl (runs_move rfl) ?_
    have hk237 := (show decide (((z.length : Nat) : Int) ≠ 32) = false by simp [hzl])
    refine RW.on_guard rfl rfl rfl rfl hk237 ?_
    refine RW.op1 rfl (runs_move rfl) ?_
    refine RW.on_guard rfl rfl rfl rfl hk237 ?_
    refine RW.op1 rfl (runs_move rfl) ?_
    refine RW.on_guard rfl rfl rfl rfl hk237 ?_
    refine RW.call rfl call13 rfl rfl (within_spec hst (v := how) (n := 4) hhow (by unfold i64ok; decide)) ?_
    rintro e w ⟨rfl, hstn⟩
    clear hst
    have hst := hstn
    clear hstn
    rw [hx182]
    refine ⟨_, rfl, ?_⟩
    refine RW.on_guard rfl rfl rfl rfl hk237 ?_
    refine RW.op1 rfl (runs_eqI rfl rfl) ?_
    refine RW.on_guard rfl rfl rfl rfl hk237 ?_
    refine RW.op1 rfl (runs_move rfl) ?_
    refine RW.split (t := 242) rfl (fun hb242 => ?_) (fun hb242 => ?_)
    · have hb242p := hb242
      try simp only [decide_eq_true_eq, decide_eq_false_iff_not] at hb242p
      refine RW.on_guard rfl rfl rfl rfl hb242 ?_
      refine RW.op1 rfl (runs_move rfl) ?_
      refine RW.on_guard rfl rfl rfl rfl hb242 ?_
      refine RW.op1 rfl (runs_eqI rfl rfl) ?_
      refine RW.on_guard rfl rfl rfl rfl hk237 ?_
      refine RW.op1 rfl (runs_pick_true rfl hb242 rfl) ?_
      refine RW.op1 rfl (runs_pick_false rfl hk237 rfl) ?_
      refine RW.done ?_
      refine AQ.next ?_
      refine CW.cond rfl (fun hc246 => ?_) (fun hc246 => ?_)
      · have hcb246 := hc246
        try simp only [decide_eq_true_eq, decide_eq_false_iff_not] at hc246
        refine CW.seq ?_
        -- region 41
        refine CW.region ?_
        refine RW.call rfl call16 rfl rfl (wakes03_spec hst) ?_
        rintro e w ⟨I40, hI40, rfl, hstn⟩
        clear hst
        have hst := hstn
        clear hstn
        replace hzz := hzz.mono hI40
        replace hle := hle.trans hI40
        refine ⟨_, rfl, ?_⟩
        refine RW.op1 rfl (runs_assign rfl) ?_
        refine RW.done ?_
        refine AQ.next ?_
        refine CW.ret ?_
        refine AQ.past_ret ?_
        refine AQ.ret1 rfl rfl ?_
        exact ⟨rfl, _, hle, hst.sub ((List.sublist_append_right _ _).trans (List.sublist_cons_self _ _))⟩
      · have hcb246 := hc246
        try simp only [decide_eq_true_eq, decide_eq_false_iff_not] at hc246
        refine CW.skip ?_
        refine AQ.next ?_
        refine CW.seq ?_
        refine CW.seq ?_
        -- region 42
        refine CW.region ?_
        have hno : ¬ (x182 = 1 ∧ needN bb.length = 1) := by
          rintro ⟨h1, h2⟩
          first | exact absurd h1 (by simpa using hb242) | exact hc246 (by rw [h2]; rfl)
        refine RW.op1 rfl (runs_move rfl) ?_
        refine RW.op1 rfl (runs_move rfl) ?_
        refine RW.op1 rfl (runs_move rfl) ?_
        refine RW.call rfl call21 rfl rfl (write_spec hd2 (hst.perm List.perm_middle.symm) (x52 + (k0 : Int)) hzz (by omega)) ?_
        rintro e w ⟨I41, Ld5, hI41, rfl, hstn, hd5⟩
        clear hst
        have hst := hstn
        clear hstn
        replace hst := hst.perm List.perm_middle
        rw [put_step hup (by omega) (by rw [hl12]; omega) hzl] at hd5 ⊢
        dsimp only at hd5 ⊢
        replace hzz := hzz.mono hI41
        replace hle := hle.trans hI41
        refine ⟨_, rfl, ?_⟩
        refine RW.op1 rfl (runs_neI rfl rfl) ?_
        refine RW.done ?_
        refine AQ.next ?_
        refine CW.cond rfl (fun hc => absurd hc (by decide)) (fun hc => ?_)
        refine CW.skip ?_
        refine AQ.next ?_
        refine CW.seq ?_
        -- region 44
        refine CW.region ?_
        refine RW.op1 rfl (runs_move rfl) ?_
        refine RW.op1 rfl (runs_move rfl) ?_
        refine RW.call rfl call18 rfl rfl (fread_spec hd5 (hst.perm List.perm_middle.symm) x52 12) ?_
        rintro e w ⟨I42, vH, re, rq, rb, rn, rer, hI42, rfl, hstn, hH, hfr9⟩
        clear hst
        have hst := hstn
        clear hstn
        replace hst := hst.perm List.perm_middle
        have hrz := reads_z hzr hno (spoilt_of hn6 (by omega) (by omega) hkN) hsum hfr9
        simp only [Prod.mk.injEq] at hrz
        obtain ⟨rfl, rfl, rfl, rfl, rfl⟩ := hrz
        replace hzz := hzz.mono hI42
        replace hle := hle.trans hI42
        refine ⟨_, rfl, ?_⟩
        refine RW.op1 rfl (runs_move rfl) ?_
        refine RW.op1 rfl (runs_extract rfl rfl) ?_
        refine RW.op1 rfl (runs_extract rfl rfl) ?_
        refine RW.op1 rfl (runs_extract rfl rfl) ?_
        refine RW.op1 rfl (runs_extract rfl rfl) ?_
        refine RW.op1 rfl (runs_assign rfl) ?_
        refine RW.op1 rfl (runs_assign rfl) ?_
        refine RW.done ?_
        refine AQ.next ?_
        refine CW.seq ?_
        -- region 45
        refine CW.region ?_
        refine RW.op1 rfl (runs_move rfl) ?_
        refine RW.op1 rfl (runs_eqI rfl rfl) ?_
        refine RW.op1 rfl (runs_move rfl) ?_
        have hk263 := (show decide ((2 : Int) = 2) = true by decide)
        refine RW.on_guard rfl rfl rfl rfl hk263 ?_
        refine RW.op1 rfl (runs_move rfl) ?_
        refine RW.on_guard rfl rfl rfl rfl hk263 ?_
        refine RW.op1 rfl (RdL.len Try.underlying24 rfl hH) ?_
        refine RW.on_guard rfl rfl rfl rfl hk263 ?_
        refine RW.op1 rfl (runs_eqI rfl rfl) ?_
        refine RW.op1 rfl (runs_pick_true rfl hk263 rfl) ?_
        refine RW.op1 rfl (runs_move rfl) ?_
        have hk268 := (show decide (((([] : List UInt8).length : Nat) : Int) = 0) = true by decide)
        refine RW.on_guard rfl rfl rfl rfl hk268 ?_
        refine RW.call rfl call16 rfl rfl (wakes03_spec hst) ?_
        rintro e w ⟨I43, hI43, rfl, hstn⟩
        clear hst
        have hst := hstn
        clear hstn
        replace hzz := hzz.mono hI43
        replace hH := hH.mono hI43
        replace hle := hle.trans hI43
        refine ⟨_, rfl, ?_⟩
        refine RW.op1 rfl (runs_pick_true rfl hk268 rfl) ?_
        refine RW.op1 rfl (runs_assign rfl) ?_
        refine RW.done ?_
        refine AQ.next ?_
        refine CW.ret ?_
        refine AQ.ret1 rfl rfl ?_
        exact ⟨rfl, _, hle, hst.sub ((List.sublist_append_right _ _).trans (List.sublist_cons_self _ _))⟩
    · have hb242p := hb242
      try simp only [decide_eq_true_eq, decide_eq_false_iff_not] at hb242p
      refine RW.off_guard rfl rfl rfl rfl hb242 ?_
      refine RW.off_guard rfl rfl rfl rfl hb242 ?_
      refine RW.on_guard rfl rfl rfl rfl hk237 ?_
      refine RW.op1 rfl (runs_pick_false rfl hb242 rfl) ?_
      refine RW.op1 rfl (runs_pick_false rfl hk237 rfl) ?_
      refine RW.done ?_
      refine AQ.next ?_
      refine CW.cond_false rfl ?_
      refine CW.skip ?_
      refine AQ.next ?_
      refine CW.seq ?_
      refine CW.seq ?_
      -- region 42
      refine CW.region ?_
      have hno : ¬ (x182 = 1 ∧ needN bb.length = 1) := by
        rintro ⟨h1, h2⟩
        first | exact absurd h1 (by simpa using hb242) | exact hc246 (by rw [h2]; rfl)
      refine RW.op1 rfl (runs_move rfl) ?_
      refine RW.op1 rfl (runs_move rfl) ?_
      refine RW.op1 rfl (runs_move rfl) ?_
      refine RW.call rfl call21 rfl rfl (write_spec hd2 (hst.perm List.perm_middle.symm) (x52 + (k0 : Int)) hzz (by omega)) ?_
      rintro e w ⟨I44, Ld5, hI44, rfl, hstn, hd5⟩
      clear hst
      have hst := hstn
      clear hstn
      replace hst := hst.perm List.perm_middle
      rw [put_step hup (by omega) (by rw [hl12]; omega) hzl] at hd5 ⊢
      dsimp only at hd5 ⊢
      replace hzz := hzz.mono hI44
      replace hle := hle.trans hI44
      refine ⟨_, rfl, ?_⟩
      refine RW.op1 rfl (runs_neI rfl rfl) ?_
      refine RW.done ?_
      refine AQ.next ?_
      refine CW.cond rfl (fun hc => absurd hc (by decide)) (fun hc => ?_)
      refine CW.skip ?_
      refine AQ.next ?_
      refine CW.seq ?_
      -- region 44
      refine CW.region ?_
      refine RW.op1 rfl (runs_move rfl) ?_
      refine RW.op1 rfl (runs_move rfl) ?_
      refine RW.call rfl call18 rfl rfl (fread_spec hd5 (hst.perm List.perm_middle.symm) x52 12) ?_
      rintro e w ⟨I45, vH, re, rq, rb, rn, rer, hI45, rfl, hstn, hH, hfr9⟩
      clear hst
      have hst := hstn
      clear hstn
      replace hst := hst.perm List.perm_middle
      have hrz := reads_z hzr hno (spoilt_of hn6 (by omega) (by omega) hkN) hsum hfr9
      simp only [Prod.mk.injEq] at hrz
      obtain ⟨rfl, rfl, rfl, rfl, rfl⟩ := hrz
      replace hzz := hzz.mono hI45
      replace hle := hle.trans hI45
      refine ⟨_, rfl, ?_⟩
      refine RW.op1 rfl (runs_move rfl) ?_
      refine RW.op1 rfl (runs_extract rfl rfl) ?_
      refine RW.op1 rfl (runs_extract rfl rfl) ?_
      refine RW.op1 rfl (runs_extract rfl rfl) ?_
      refine RW.op1 rfl (runs_extract rfl rfl) ?_
      refine RW.op1 rfl (runs_assign rfl) ?_
      refine RW.op1 rfl (runs_assign rfl) ?_
      refine RW.done ?_
      refine AQ.next ?_
      refine CW.seq ?_
      -- region 45
      refine CW.region ?_
      refine RW.op1 rfl (runs_move rfl) ?_
      refine RW.op1 rfl (runs_eqI rfl rfl) ?_
      refine RW.op1 rfl (runs_move rfl) ?_
      have hk263 := (show decide ((2 : Int) = 2) = true by decide)
      refine RW.on_guard rfl rfl rfl rfl hk263 ?_
      refine RW.op1 rfl (runs_move rfl) ?_
      refine RW.on_guard rfl rfl rfl rfl hk263 ?_
      refine RW.op1 rfl (RdL.len Try.underlying24 rfl hH) ?_
      refine RW.on_guard rfl rfl rfl rfl hk263 ?_
      refine RW.op1 rfl (runs_eqI rfl rfl) ?_
      refine RW.op1 rfl (runs_pick_true rfl hk263 rfl) ?_
      refine RW.op1 rfl (runs_move rfl) ?_
      have hk268 := (show decide (((([] : List UInt8).length : Nat) : Int) = 0) = true by decide)
      refine RW.on_guard rfl rfl rfl rfl hk268 ?_
      refine RW.call rfl call16 rfl rfl (wakes03_spec hst) ?_
      rintro e w ⟨I46, hI46, rfl, hstn⟩
      clear hst
      have hst := hstn
      clear hstn
      replace hzz := hzz.mono hI46
      replace hH := hH.mono hI46
      replace hle := hle.trans hI46
      refine ⟨_, rfl, ?_⟩
      refine RW.op1 rfl (runs_pick_true rfl hk268 rfl) ?_
      refine RW.op1 rfl (runs_assign rfl) ?_
      refine RW.done ?_
      refine AQ.next ?_
      refine CW.ret ?_
      refine AQ.ret1 rfl rfl ?_
      exact ⟨rfl, _, hle, hst.sub ((List.sublist_append_right _ _).trans (List.sublist_cons_self _ _))⟩
end Go.Proofs.YtcbndkllppmmmaaX
