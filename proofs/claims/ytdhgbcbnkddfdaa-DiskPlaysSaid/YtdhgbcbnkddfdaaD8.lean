/- What is written may change behind that: the walk. -/
import Derived.Test.YtdhgbcbnkddfdaaT
import Derived.Test.YtdhgbcbnkddfdaaD7
namespace Go.Proofs.YtdhgbcbnkddfdaaX
set_option linter.unusedVariables false
set_option linter.unusedSimpArgs false
open Go Go.RowKit Go.Proofs

set_option maxRecDepth 100000 in
set_option maxHeartbeats 1000000 in
theorem bytes_block {w0 w : World} {I : Imm} {L : Own} (hst : St w0 w I L) (n size : Int) (hn : i64ok n) (hs : size ≤ 1000000) {nn : Nat} (hnn : size = nn) :
    Calls Try.prog 16 #[.int .i64 n, .int .i64 size] w fun e w' => ∃ b, e = .returned (.slice (some ⟨b, 0, none⟩) nn nn) ∧ St w0 w' I ((b, .cells ((bytesOf n size).map b8).toArray 5) :: L) := by
  unfold i64ok at hn
  refine enter Try.func16 rfl (N := 28) rfl rfl ?_
  simp only [List.zipIdx_cons, List.zipIdx_nil, List.map_cons, List.map_nil, Nat.zero_add, Nat.reduceAdd]
  have hle := Imm.le.refl I
  refine CW.seq ?_
  -- region 0
  refine CW.region ?_
  refine RW.op1 rfl (runs_assign rfl) ?_
  refine RW.done ?_
  refine AQ.next ?_
  refine CW.seq ?_
  -- region 1
  refine CW.region ?_
  refine RW.op1 rfl (runs_move rfl) ?_
  refine RW.op1 rfl (runs_max rfl rfl) ?_
  obtain ⟨m, hm⟩ : ∃ m : Nat, m = size.toNat := ⟨_, rfl⟩
  have hmx : (if (0 : Int) > size then (0 : Int) else size) = (m : Int) := by split <;> omega
  rw [hmx]
  refine RW.opE rfl (runs_makeSlice (n := m) Try.underlying26 ti5 rfl hst (by omega) (by unfold maxLen; omega)) ?_
  rintro _ w ⟨b1, rfl, hstn⟩
  clear hst
  have hst := hstn
  clear hstn
  refine RW.op1 rfl (runs_assign rfl) ?_
  rw [made_b8] at hst
  refine RW.done ?_
  refine AQ.next ?_
  refine CW.seq ?_
  refine CW.seq ?_
  -- region 2
  refine CW.region ?_
  refine RW.op1 rfl (runs_move rfl) ?_
  first
    | refine RW.op1 rfl (RdL.len Try.underlying26 rfl (by assumption)) ?_
    | refine RW.op1 rfl (runs_lenL Try.underlying26 rfl) ?_
    | refine RW.op1 rfl (Grow.len Try.underlying26 rfl (by assumption)) ?_
  refine RW.op1 rfl (runs_move rfl) ?_
  refine RW.done ?_
  refine AQ.next ?_
  refine CW.block ?_
  -- loop 1
  refine CW.loop Nat (fun k w => St w0 w I ((b1, .cells ((bytesTo n m k).map b8).toArray 5) :: L) ∧ k ≤ m) (fun k => [(0, .int .i64 n), (5, .slice (some ⟨b1, 0, none⟩) m m), (11, .int .i64 (m : Int)), (12, .int .i64 (k : Int))]) (fun k => m - k) ⟨0, ⟨by rw [bytesTo_zero]; exact hst, Nat.zero_le _⟩, ⟨rfl, rfl, rfl, rfl, trivial⟩⟩ ?_
  rintro k w ⟨hst, hk⟩
  refine CW.seq ?_
  -- region 3
  refine CW.region ?_
  refine RW.op1 rfl (runs_lss rfl rfl) ?_
  refine RW.done ?_
  refine AQ.next ?_
  refine CW.seq ?_
  refine CW.cond rfl (fun hc13 => ?_) (fun hc13 => ?_)
  · have hcb13 := hc13
    try simp only [decide_eq_true_eq, decide_eq_false_iff_not] at hc13
    refine CW.skip ?_
    refine AQ.next ?_
    refine CW.seq ?_
    refine CW.block ?_
    refine CW.seq ?_
    -- region 4
    refine CW.region ?_
    refine RW.op1 rfl (runs_move rfl) ?_
    refine RW.op1 rfl (runs_assign rfl) ?_
    refine RW.done ?_
    refine AQ.next ?_
    -- region 5
    refine CW.region ?_
    refine RW.op1 rfl (runs_move rfl) ?_
    refine RW.op1 rfl (runs_move rfl) ?_
    refine RW.op1 rfl (runs_move rfl) ?_
    refine RW.op1 rfl (runs_move rfl) ?_
    refine RW.op1 rfl (runs_move rfl) ?_
    refine RW.op1 rfl (runs_quo rfl rfl (by decide)) ?_
    refine RW.op1 rfl (runs_or rfl rfl) ?_
    refine RW.op1 rfl (runs_mulW rfl rfl) ?_
    refine RW.op1 rfl (runs_addW rfl rfl) ?_
    refine RW.op1 rfl (runs_convB (by rw [Try.underlying3]; rfl) Try.underlying5 rfl) ?_
    first
      | refine RW.op1 rfl (RdL.indexAddr Try.underlying26 ti5 (by decide) rfl rfl (by assumption) (by omega)) ?_
      | refine RW.op1 rfl (runs_indexAddr0 Try.underlying26 ti5 rfl rfl (by omega)) ?_
    refine RW.opE0 (runs_store1' ti5 rfl rfl hst (k := 0) rfl (by simp [bytesTo_length hk]; omega) (NoFz.zero _) rfl) ?_
    rintro w hstn
    clear hst
    have hst := hstn
    clear hstn
    try simp only [List.set_cons_zero, List.set_cons_succ] at hst
    refine RW.done ?_
    refine AQ.block_normal ?_
    refine AQ.next ?_
    -- region 6
    refine CW.region ?_
    refine RW.op1 rfl (runs_add rfl rfl (by omega)) ?_
    refine RW.op1 rfl (runs_move rfl) ?_
    refine RW.done ?_
    refine AQ.again (k + 1) ⟨?_, by omega⟩ ⟨rfl, rfl, rfl, rfl, trivial⟩ (by omega)
    have e : (0 + (k : Int).toNat * 1) = k := by omega
    have h9 := set_b8 (bytesTo n m k) k (byteAt n k)
    rw [bytesTo_set (by omega)] at h9
    rw [← h9]
    simp only [List.set_cons_zero, e] at hst
    exact hst
  · have hcb13 := hc13
    try simp only [decide_eq_true_eq, decide_eq_false_iff_not] at hc13
    refine CW.exit ?_
    refine AQ.past_exit ?_
    refine AQ.past_exit ?_
    refine AQ.block_hit ?_
    refine AQ.next ?_
    refine CW.seq ?_
    -- region 7
    refine CW.region ?_
    refine RW.op1 rfl (runs_move rfl) ?_
    refine RW.op1 rfl (runs_assign rfl) ?_
    refine RW.done ?_
    refine AQ.next ?_
    refine CW.ret ?_
    refine AQ.ret1 rfl rfl ?_
    have : k = m := by omega
    subst this
    rw [bytesTo_end] at hst
    have hkn : k = nn := by omega
    subst hkn
    refine ⟨b1, rfl, ?_⟩
    unfold bytesOf
    rw [← hm]
    exact hst
theorem GrowB.of_block {e : TypeId} {b n : Nat} {bs : List UInt8} (h : bs.length = n) (hn : n ≤ maxLen) : GrowB e (.slice (some ⟨b, 0, none⟩) n n) bs [(b, .cells (bs.map b8).toArray e)] := by
  refine ⟨by rw [List.length_map, Nat.mul_one], b8_one bs, .inr ⟨b, n, _, by rw [h], rfl, by omega, hn, by simp [h], ?_⟩⟩
  rw [Nat.mul_one]
  exact List.take_of_length_le (by simp)
theorem map_get {bs : List UInt8} {k : Nat} (hk : k < bs.length) : (bs.map b8).toArray[k]? = some (b8 (bs.getD k 0)) := by
  simp [hk]
theorem xor_u8 (x y : Int) : ∃ c : UInt8, Value.int .u8 (bitop .xor .u8 x y) = b8 c := ⟨u8 _, by show Value.int .u8 (IntKind.u8.wrap _) = _; rw [u8_wrap]; rfl⟩
theorem p_mid {α : Type} (x : α) (A B C : List α) : (A ++ (x :: (B ++ C))).Perm (B ++ (A ++ (x :: C))) :=
  (List.Perm.append_left A List.perm_middle.symm).trans (List.perm_append_comm_assoc A B _)
theorem p_out {α : Type} (x : α) (A B C : List α) : (A ++ (B ++ (x :: C))).Perm (x :: (A ++ (B ++ C))) :=
  (List.Perm.append_left A List.perm_middle).trans List.perm_middle
theorem cr22 {b0 b1 : List UInt8} (h0 : b0.length = 32) (h1 : b1.length = 32) : crashR (mk2 zs zs [(1, b0), (1, b1)]) [2, 2] = mk2 zs b1 [] := by
  have e1 : b0.take 32 = b0 := List.take_of_length_le (by omega)
  have e2 : b1.take 32 = b1 := List.take_of_length_le (by omega)
  show mk2 zs (b1.take 32 ++ (b0.take 32 ++ zs.drop 32).drop 32) [] = _
  have e3 : zs.drop 32 = [] := rfl
  rw [e1, e2, e3, List.append_nil, List.drop_eq_nil_of_le (by omega), List.append_nil]
theorem cr12 {b0 : List UInt8} (h0 : b0.length = 32) : crashR (mk2 zs zs [(1, b0)]) [2] = mk2 zs b0 [] := by
  have e1 : b0.take 32 = b0 := List.take_of_length_le (by omega)
  show mk2 zs (b0.take 32 ++ zs.drop 32) [] = _
  have e3 : zs.drop 32 = [] := rfl
  rw [e1, e3, List.append_nil]
theorem GrowB.opn2 {e : TypeId} {v : Value} {bs : List UInt8} {Lv : Own} (hg : GrowB e v bs Lv) (hpos : 0 < bs.length) : ∃ g cap cur, v = .slice (some ⟨g, 0, none⟩) bs.length cap ∧ Lv = [(g, .cells cur e)] ∧ bs.length ≤ cap ∧ bs.length ≤ cur.size ∧ ∀ k, k < bs.length → cur[k]? = some (b8 (bs.getD k 0)) := by
  obtain ⟨h1, h0, ⟨rfl, h2, rfl⟩ | ⟨g, cap, cur, rfl, rfl, h3, h4, h5, h6⟩⟩ := hg
  · omega
  · refine ⟨g, cap, cur, rfl, rfl, h3, by omega, fun k hk => ?_⟩
    have h7 : (bs.map b8)[k]? = some (b8 (bs.getD k 0)) := by simp [hk]
    rw [← h6, List.getElem?_take, if_pos (by omega)] at h7
    simpa using h7
set_option maxRecDepth 100000 in
set_option maxHeartbeats 1000000 in
theorem memory_spec {w0 w : World} {I : Imm} {L : Own} (hst : St w0 w I L) (n k : Int) (c : Int) (hn : i64ok n) (hk : i64ok k) :
    Calls Try.prog 4 #[.int .i64 n, .int .i64 k, .int .u8 c] w fun e w' => e = .returned (.bool true) ∧ ∃ I', I.le I' ∧ St w0 w' I' L := by
  refine enter Try.func4 rfl (N := 113) rfl rfl ?_
  simp only [List.zipIdx_cons, List.zipIdx_nil, List.map_cons, List.map_nil, Nat.zero_add, Nat.reduceAdd]
  have hle := Imm.le.refl I
  refine CW.seq ?_
  -- region 0
  refine CW.region ?_
  refine RW.op1 rfl (runs_assign rfl) ?_
  refine RW.done ?_
  refine AQ.next ?_
  refine CW.seq ?_
  -- region 1
  refine CW.region ?_
  refine RW.call rfl call9 rfl rfl (new_spec hst 2) ?_
  rintro e w ⟨_, Ld1, rfl, _, hstn, hd1, a1, rfl⟩
  clear hst
  have hst := hstn
  clear hstn
  rw [newR2] at hd1
  refine ⟨_, rfl, ?_⟩
  refine RW.op1 rfl (runs_assign rfl) ?_
  refine RW.done ?_
  refine AQ.next ?_
  refine CW.seq ?_
  refine CW.seq ?_
  -- region 2
  refine CW.region ?_
  refine RW.op1 rfl (runs_move rfl) ?_
  refine RW.op1 rfl (runs_eq_nilptr Try.underlying23 rfl) ?_
  refine RW.done ?_
  refine AQ.next ?_
  refine CW.cond rfl (fun hc => absurd hc (by rw [(show (Option.isNone (some a1)) = false from rfl)]; decide)) (fun hc => ?_)
  refine CW.skip ?_
  refine AQ.next ?_
  refine CW.seq ?_
  -- region 4
  refine CW.region ?_
  refine RW.op1 rfl (runs_move rfl) ?_
  refine RW.call rfl call8 rfl rfl (within_spec hst (v := k) (n := 32) hk (by unfold i64ok; decide)) ?_
  rintro e w ⟨rfl, hstn⟩
  clear hst
  have hst := hstn
  clear hstn
  have hw1 := within_range k 32
  generalize hx1 : within k 32 = x1 at *
  obtain ⟨kk, rfl⟩ : ∃ m : Nat, x1 = m := ⟨x1.toNat, by omega⟩
  have hkk : kk < 32 := by omega
  refine ⟨_, rfl, ?_⟩
  refine RW.op1 rfl (runs_assign rfl) ?_
  refine RW.done ?_
  refine AQ.next ?_
  refine CW.seq ?_
  -- region 5
  refine CW.region ?_
  refine RW.op1 rfl (runs_move rfl) ?_
  refine RW.call rfl call16 rfl rfl (bytes_block hst n 32 hn (by decide) (nn := 32) rfl) ?_
  rintro e w ⟨bx, rfl, hstn⟩
  clear hst
  have hst := hstn
  clear hstn
  have hb0 : (bytesOf n 32).length = 32 := bytesOf_length n 32
  generalize bytesOf n 32 = b0 at hst hb0
  refine ⟨_, rfl, ?_⟩
  refine RW.op1 rfl (runs_assign rfl) ?_
  refine RW.done ?_
  refine AQ.next ?_
  refine CW.seq ?_
  -- region 6
  refine CW.region ?_
  have hwas := hle
  obtain ⟨I6, hI6, hstn, hx6, back6⟩ := GrowB.lend (GrowB.of_block (e := 5) (b := bx) hb0 (by unfold maxLen; decide)) hst
  clear hst
  have hst := hstn
  clear hstn
  have hle0 := hle
  have hwas0 := hwas
  replace hle := hle.trans hI6
  refine RW.op1 rfl (runs_move rfl) ?_
  refine RW.call rfl call17 rfl rfl (copy_own hst hx6 (by omega)) ?_
  rintro e w ⟨vw, Lw, rfl, hstn, hgw⟩
  clear hst
  have hst := hstn
  clear hstn
  refine ⟨_, rfl, ?_⟩
  refine RW.op1 rfl (runs_assign rfl) ?_
  obtain ⟨J6, hJ6, _, hstn⟩ := back6 _ _ _ (Imm.le.refl _) hst
  clear hst
  have hst := hstn
  clear hstn
  clear hwas hwas0
  obtain ⟨K6, hK6, hstn, hwas⟩ := GrowB.freeze hgw (hst.perm (List.perm_append_comm_assoc _ _ _))
  simp only [List.cons_append, List.nil_append] at hstn
  clear hst
  have hst := hstn
  clear hstn
  replace hle := (hle0.trans hJ6).trans hK6
  refine RW.done ?_
  refine AQ.next ?_
  refine CW.seq ?_
  refine CW.seq ?_
  -- region 7
  refine CW.region ?_
  obtain ⟨I7, hI7, hstn, hx7, back7⟩ := GrowB.lend (GrowB.of_block (e := 5) (b := bx) hb0 (by unfold maxLen; decide)) hst
  clear hst
  have hst := hstn
  clear hstn
  have hle0 := hle
  have hwas0 := hwas
  replace hle := hle.trans hI7
  refine RW.op1 rfl (runs_move rfl) ?_
  refine RW.op1 rfl (runs_move rfl) ?_
  refine RW.call rfl call12 rfl rfl (write_spec hd1 hst 1 hx7 (Nat.zero_le _)) ?_
  rintro e w ⟨I5, Ld2, hI5, rfl, hstn, hd1⟩
  clear hst
  have hst := hstn
  clear hstn
  rw [wr2 hb0] at hd1 ⊢
  dsimp only [List.nil_append] at hd1 ⊢
  replace hle := hle.trans hI5
  refine ⟨_, rfl, ?_⟩
  refine RW.op1 rfl (runs_neI rfl rfl) ?_
  obtain ⟨J7, hJ7, _, hstn⟩ := back7 _ _ _ (by assumption) hst
  simp only [List.cons_append, List.nil_append] at hstn
  clear hst
  have hst := hstn
  clear hstn
  replace hle := hle0.trans hJ7
  replace hwas := hwas0.mono hJ7
  refine RW.done ?_
  refine AQ.next ?_
  refine CW.cond rfl (fun hc => absurd hc (by decide)) (fun hc => ?_)
  refine CW.skip ?_
  refine AQ.next ?_
  refine CW.seq ?_
  -- region 9
  refine CW.region ?_
  have hg0 : (b0.map b8).toArray[0 + ((kk : Nat) : Int).toNat * 1]? = some (b8 (b0.getD kk 0)) := by
    rw [show 0 + ((kk : Nat) : Int).toNat * 1 = kk by omega]
    exact map_get (by omega)
  refine RW.op1 rfl (runs_move rfl) ?_
  refine RW.op1 rfl (runs_move rfl) ?_
  refine RW.op1 rfl (runs_indexAddr0 Try.underlying26 ti5 rfl rfl (by omega)) ?_
  refine RW.op1 rfl (runs_load1 sc5 rfl (hst.cell_own (k := 0) rfl hg0)) ?_
  refine RW.op1 rfl (runs_move rfl) ?_
  refine RW.op1 rfl (runs_or rfl rfl) ?_
  refine RW.op1 rfl (runs_xor rfl rfl) ?_
  obtain ⟨c1, hc1⟩ := xor_u8 ((b0.getD kk 0).toNat : Int) (bitop .or .u8 c 1)
  rw [hc1]
  refine RW.op1 rfl (runs_indexAddr0 Try.underlying26 ti5 rfl rfl (by omega)) ?_
  refine RW.opE0 (runs_store1' ti5 rfl rfl hst (k := 0) rfl (by simp; omega) (NoFz.zero _) rfl) ?_
  rintro w hstn
  clear hst
  have hst := hstn
  clear hstn
  try simp only [List.set_cons_zero, List.set_cons_succ] at hst
  try simp only [List.set_cons_zero] at hst
  rw [show 0 + ((kk : Nat) : Int).toNat * 1 = kk by omega, set_b8] at hst
  obtain ⟨b1, hb1e⟩ : ∃ b1, b0.set kk c1 = b1 := ⟨_, rfl⟩
  rw [hb1e] at hst
  have hb1 : b1.length = 32 := by rw [← hb1e, List.length_set]; exact hb0
  refine RW.done ?_
  refine AQ.next ?_
  refine CW.seq ?_
  -- region 10
  refine CW.region ?_
  refine RW.op1 rfl (runs_move rfl) ?_
  refine RW.call rfl call11 rfl rfl (read_own hd1 (hst.perm List.perm_middle.symm) 1) ?_
  rintro e w ⟨I7, vy, Ly, hI7, rfl, hstn, hgy⟩
  clear hst
  have hst := hstn
  clear hstn
  rw [if_pos (may2 _ _ _)] at hgy
  rw [may2]
  replace hgy : GrowB 5 vy b0 Ly := hgy
  replace hwas := hwas.mono hI7
  replace hle := hle.trans hI7
  refine ⟨_, rfl, ?_⟩
  refine RW.op1 rfl (runs_move rfl) ?_
  refine RW.op1 rfl (runs_extract rfl rfl) ?_
  refine RW.op1 rfl (runs_extract rfl rfl) ?_
  refine RW.op1 rfl (runs_assign rfl) ?_
  refine RW.op1 rfl (runs_assign rfl) ?_
  refine RW.done ?_
  refine AQ.next ?_
  refine CW.seq ?_
  refine CW.seq ?_
  -- region 11
  refine CW.region ?_
  obtain ⟨I11, hI11, hstn, hy11, back11⟩ := GrowB.lend hgy hst
  clear hst
  have hst := hstn
  clear hstn
  have hwas1 := hwas.mono hI11
  refine RW.op1 rfl (runs_move rfl) ?_
  refine RW.op1 rfl (runs_neI rfl rfl) ?_
  refine RW.op1 rfl (runs_move rfl) ?_
  have hk47 := (show decide ((0 : Int) ≠ 0) = false by decide)
  refine RW.on_guard rfl rfl rfl rfl hk47 ?_
  refine RW.op1 rfl (runs_move rfl) ?_
  refine RW.on_guard rfl rfl rfl rfl hk47 ?_
  refine RW.op1 rfl (runs_move rfl) ?_
  refine RW.on_guard rfl rfl rfl rfl hk47 ?_
  refine RW.call rfl call18 rfl rfl (same_spec hst hy11 hwas1 (by omega)) ?_
  rintro e w ⟨rfl, hstn⟩
  clear hst
  have hst := hstn
  clear hstn
  refine ⟨_, rfl, ?_⟩
  refine RW.on_guard rfl rfl rfl rfl hk47 ?_
  refine RW.op1 rfl (runs_not rfl) ?_
  refine RW.op1 rfl (runs_pick_false rfl hk47 rfl) ?_
  obtain ⟨J11, hJ11, _, hstn⟩ := back11 _ _ _ (Imm.le.refl _) hst
  clear hst
  have hst := hstn
  clear hstn
  replace hle := hle.trans hJ11
  replace hwas := hwas.mono hJ11
  refine RW.done ?_
  refine AQ.next ?_
  refine CW.cond rfl (fun hc => absurd hc (by simp)) (fun hc => ?_)
  refine CW.skip ?_
  refine AQ.next ?_
  refine CW.seq ?_
  -- region 13
  refine CW.region ?_
  obtain ⟨gy, capy, cury, rfl, rfl, hy1, hy2, hy3⟩ := Go.Proofs.YtdhgbcbnkddfdaaX.GrowB.opn2 hgy (by omega)
  have hgy0 : cury[0 + ((kk : Nat) : Int).toNat * 1]? = some (b8 (b0.getD kk 0)) := by
    rw [show 0 + ((kk : Nat) : Int).toNat * 1 = kk by omega]
    exact hy3 kk (by omega)
  refine RW.op1 rfl (runs_move rfl) ?_
  refine RW.op1 rfl (runs_move rfl) ?_
  refine RW.op1 rfl (runs_indexAddr0 Try.underlying26 ti5 rfl rfl (by omega)) ?_
  refine RW.op1 rfl (runs_load1 sc5 rfl (hst.cell_own (k := 0) rfl hgy0)) ?_
  refine RW.op1 rfl (runs_move rfl) ?_
  refine RW.op1 rfl (runs_or rfl rfl) ?_
  refine RW.op1 rfl (runs_xor rfl rfl) ?_
  refine RW.op1 rfl (runs_indexAddr0 Try.underlying26 ti5 rfl rfl (by omega)) ?_
  refine RW.opE0 (runs_store1' ti5 rfl rfl hst (k := 0) rfl (by omega) (NoFz.zero _) rfl) ?_
  rintro w hstn
  clear hst
  have hst := hstn
  clear hstn
  try simp only [List.set_cons_zero, List.set_cons_succ] at hst
  replace hst := hst.drop1
  refine RW.done ?_
  refine AQ.next ?_
  refine CW.seq ?_
  -- region 14
  refine CW.region ?_
  refine RW.op1 rfl (runs_move rfl) ?_
  refine RW.call rfl call19 rfl rfl (dclone_spec hd1 hst (by show 1 ≤ 1000000; decide)) ?_
  rintro e w ⟨_, Lf, rfl, ⟨a2, rfl⟩, hstn, hd2⟩
  clear hst
  have hst := hstn
  clear hstn
  refine ⟨_, rfl, ?_⟩
  refine RW.op1 rfl (runs_assign rfl) ?_
  refine RW.done ?_
  refine AQ.next ?_
  refine CW.seq ?_
  refine CW.seq ?_
  -- region 15
  refine CW.region ?_
  replace hst := hst.perm (p_out _ _ _ _)
  obtain ⟨I15, hI15, hstn, hx15, back15⟩ := GrowB.lend (GrowB.of_block (e := 5) (b := bx) hb1 (by unfold maxLen; decide)) hst
  clear hst
  have hst := hstn
  clear hstn
  have hle0 := hle
  have hwas0 := hwas
  replace hle := hle.trans hI15
  refine RW.op1 rfl (runs_move rfl) ?_
  refine RW.op1 rfl (runs_eq_nilptr Try.underlying23 rfl) ?_
  refine RW.op1 rfl (runs_move rfl) ?_
  have hk65 := (show (Option.isNone (some a2)) = false from rfl)
  refine RW.on_guard rfl rfl rfl rfl hk65 ?_
  refine RW.op1 rfl (runs_move rfl) ?_
  refine RW.on_guard rfl rfl rfl rfl hk65 ?_
  refine RW.call rfl call20 rfl rfl (pending_spec hd2 hst) ?_
  rintro e w ⟨rfl, hstn⟩
  clear hst
  have hst := hstn
  clear hstn
  refine ⟨_, rfl, ?_⟩
  refine RW.on_guard rfl rfl rfl rfl hk65 ?_
  refine RW.op1 rfl (runs_neI rfl rfl) ?_
  refine RW.op1 rfl (runs_pick_false rfl hk65 rfl) ?_
  refine RW.op1 rfl (runs_move rfl) ?_
  have hk70 := (show decide (((1 : Nat) : Int) ≠ 1) = false by decide)
  refine RW.on_guard rfl rfl rfl rfl hk70 ?_
  refine RW.op1 rfl (runs_move rfl) ?_
  refine RW.on_guard rfl rfl rfl rfl hk70 ?_
  refine RW.op1 rfl (runs_move rfl) ?_
  refine RW.on_guard rfl rfl rfl rfl hk70 ?_
  refine RW.call rfl call12 rfl rfl (write_spec hd2 hst 1 hx15 (by show 1 ≤ 1000000; decide)) ?_
  rintro e w ⟨I12, Lf2, hI12, rfl, hstn, hd2⟩
  clear hst
  have hst := hstn
  clear hstn
  rw [wr2 hb1] at hd2 ⊢
  dsimp only [List.cons_append, List.nil_append] at hd2 ⊢
  replace hle := hle.trans hI12
  refine ⟨_, rfl, ?_⟩
  refine RW.on_guard rfl rfl rfl rfl hk70 ?_
  refine RW.op1 rfl (runs_neI rfl rfl) ?_
  refine RW.op1 rfl (runs_pick_false rfl hk70 rfl) ?_
  obtain ⟨J15, hJ15, _, hstn⟩ := back15 _ _ _ (by assumption) hst
  simp only [List.cons_append, List.nil_append] at hstn
  clear hst
  have hst := hstn
  clear hstn
  replace hle := hle0.trans hJ15
  replace hwas := hwas0.mono hJ15
  refine RW.done ?_
  refine AQ.next ?_
  refine CW.cond rfl (fun hc => absurd hc (by decide)) (fun hc => ?_)
  refine CW.skip ?_
  refine AQ.next ?_
  refine CW.seq ?_
  -- region 17
  refine CW.region ?_
  refine RW.op1 rfl (runs_move rfl) ?_
  refine RW.opE rfl (runs_lit1R Try.underlying42 ti3 (by decide) rfl rfl rfl (by simp [Value.oneCell']) hst) ?_
  rintro u13 w ⟨I13, hI13, hstn, h13⟩
  clear hst
  have hst := hstn
  clear hstn
  replace hwas := hwas.mono hI13
  replace hle := hle.trans hI13
  have hK : RdI _ u13 [2, 2] := h13
  refine RW.call rfl call21 rfl rfl (crash_spec hd2 (hst.perm List.perm_middle.symm) hK) ?_
  rintro e w ⟨Lf3, rfl, hstn, hd2⟩
  clear hst
  have hst := hstn
  clear hstn
  rw [cr22 hb0 hb1] at hd2
  refine ⟨_, rfl, ?_⟩
  refine RW.done ?_
  refine AQ.next ?_
  refine CW.seq ?_
  -- region 18
  refine CW.region ?_
  refine RW.op1 rfl (runs_move rfl) ?_
  refine RW.call rfl call11 rfl rfl (read_spec hd1 (hst.perm (p_mid _ _ _ _)) 1) ?_
  rintro e w ⟨I15, vz, hI15, rfl, hstn, hz⟩
  clear hst
  have hst := hstn
  clear hstn
  rw [if_pos (may2 _ _ _)] at hz
  rw [may2]
  replace hz : RdB I15 vz b0 := hz
  replace hwas := hwas.mono hI15
  replace hle := hle.trans hI15
  refine ⟨_, rfl, ?_⟩
  refine RW.op1 rfl (runs_move rfl) ?_
  refine RW.op1 rfl (runs_extract rfl rfl) ?_
  refine RW.op1 rfl (runs_extract rfl rfl) ?_
  refine RW.op1 rfl (runs_assign rfl) ?_
  refine RW.op1 rfl (runs_assign rfl) ?_
  refine RW.done ?_
  refine AQ.next ?_
  refine CW.seq ?_
  -- region 19
  refine CW.region ?_
  refine RW.op1 rfl (runs_move rfl) ?_
  refine RW.call rfl call11 rfl rfl (read_spec hd2 (hst.perm (List.perm_append_comm_assoc _ _ _)) 1) ?_
  rintro e w ⟨I16, vv, hI16, rfl, hstn, hv⟩
  clear hst
  have hst := hstn
  clear hstn
  rw [if_pos (may2 _ _ _)] at hv
  rw [may2]
  replace hv : RdB I16 vv b1 := hv
  replace hst := hst.sub (List.sublist_append_right _ _)
  replace hwas := hwas.mono hI16
  replace hz := hz.mono hI16
  replace hle := hle.trans hI16
  refine ⟨_, rfl, ?_⟩
  refine RW.op1 rfl (runs_move rfl) ?_
  refine RW.op1 rfl (runs_extract rfl rfl) ?_
  refine RW.op1 rfl (runs_extract rfl rfl) ?_
  refine RW.op1 rfl (runs_assign rfl) ?_
  refine RW.op1 rfl (runs_assign rfl) ?_
  refine RW.done ?_
  refine AQ.next ?_
  refine CW.seq ?_
  -- region 20
  refine CW.region ?_
  refine RW.op1 rfl (runs_move rfl) ?_
  refine RW.opE rfl (runs_lit1R Try.underlying42 ti3 (by decide) rfl rfl rfl (by simp [Value.oneCell']) hst) ?_
  rintro u17 w ⟨I17, hI17, hstn, h17⟩
  clear hst
  have hst := hstn
  clear hstn
  replace hwas := hwas.mono hI17
  replace hz := hz.mono hI17
  replace hv := hv.mono hI17
  replace hle := hle.trans hI17
  have hK2 : RdI _ u17 [2] := h17
  refine RW.call rfl call21 rfl rfl (crash_spec hd1 hst hK2) ?_
  rintro e w ⟨Ld4, rfl, hstn, hd1⟩
  clear hst
  have hst := hstn
  clear hstn
  rw [cr12 hb0] at hd1
  refine ⟨_, rfl, ?_⟩
  refine RW.done ?_
  refine AQ.next ?_
  refine CW.seq ?_
  -- region 21
  refine CW.region ?_
  refine RW.op1 rfl (runs_move rfl) ?_
  refine RW.call rfl call11 rfl rfl (read_spec hd1 hst 1) ?_
  rintro e w ⟨I19, vu, hI19, rfl, hstn, hu⟩
  clear hst
  have hst := hstn
  clear hstn
  rw [if_pos (may2 _ _ _)] at hu
  rw [may2]
  replace hu : RdB I19 vu b0 := hu
  replace hwas := hwas.mono hI19
  replace hz := hz.mono hI19
  replace hv := hv.mono hI19
  replace hle := hle.trans hI19
  refine ⟨_, rfl, ?_⟩
  refine RW.op1 rfl (runs_move rfl) ?_
  refine RW.op1 rfl (runs_extract rfl rfl) ?_
  refine RW.op1 rfl (runs_extract rfl rfl) ?_
  refine RW.op1 rfl (runs_assign rfl) ?_
  refine RW.op1 rfl (runs_assign rfl) ?_
  refine RW.done ?_
  refine AQ.next ?_
  refine CW.seq ?_
  -- region 22
  refine CW.region ?_
  obtain ⟨I22, hI22, hstn, hx22⟩ := GrowB.freeze (Lv := [(bx, _)]) (GrowB.of_block (e := 5) (b := bx) hb1 (by unfold maxLen; decide)) (hst.perm List.perm_middle)
  clear hst
  have hst := hstn
  clear hstn
  replace hle := hle.trans hI22
  replace hwas := hwas.mono hI22
  replace hz := hz.mono hI22
  replace hv := hv.mono hI22
  replace hu := hu.mono hI22
  refine RW.op1 rfl (runs_move rfl) ?_
  refine RW.op1 rfl (runs_move rfl) ?_
  refine RW.call rfl call18 rfl rfl (same_spec hst hz hwas (by omega)) ?_
  rintro e w ⟨rfl, hstn⟩
  clear hst
  have hst := hstn
  clear hstn
  refine ⟨_, rfl, ?_⟩
  refine RW.op1 rfl (runs_move rfl) ?_
  have hk100 := (show decide (b0 = b0) = true by simp)
  refine RW.on_guard rfl rfl rfl rfl hk100 ?_
  refine RW.op1 rfl (runs_move rfl) ?_
  refine RW.on_guard rfl rfl rfl rfl hk100 ?_
  refine RW.op1 rfl (runs_move rfl) ?_
  refine RW.on_guard rfl rfl rfl rfl hk100 ?_
  refine RW.call rfl call18 rfl rfl (same_spec hst hv hx22 (by omega)) ?_
  rintro e w ⟨rfl, hstn⟩
  clear hst
  have hst := hstn
  clear hstn
  refine ⟨_, rfl, ?_⟩
  refine RW.op1 rfl (runs_pick_true rfl hk100 rfl) ?_
  refine RW.op1 rfl (runs_move rfl) ?_
  have hk105 := (show decide (b1 = b1) = true by simp)
  refine RW.on_guard rfl rfl rfl rfl hk105 ?_
  refine RW.op1 rfl (runs_move rfl) ?_
  refine RW.on_guard rfl rfl rfl rfl hk105 ?_
  refine RW.op1 rfl (runs_move rfl) ?_
  refine RW.on_guard rfl rfl rfl rfl hk105 ?_
  refine RW.call rfl call18 rfl rfl (same_spec hst hu hwas (by omega)) ?_
  rintro e w ⟨rfl, hstn⟩
  clear hst
  have hst := hstn
  clear hstn
  refine ⟨_, rfl, ?_⟩
  refine RW.op1 rfl (runs_pick_true rfl hk105 rfl) ?_
  refine RW.op1 rfl (runs_move rfl) ?_
  have hk110 := (show decide (b0 = b0) = true by simp)
  refine RW.on_guard rfl rfl rfl rfl hk110 ?_
  refine RW.call rfl call15 rfl rfl (wakes01_spec hst) ?_
  rintro e w ⟨I23, hI23, rfl, hstn⟩
  clear hst
  have hst := hstn
  clear hstn
  replace hwas := hwas.mono hI23
  replace hz := hz.mono hI23
  replace hv := hv.mono hI23
  replace hu := hu.mono hI23
  replace hx22 := hx22.mono hI23
  replace hle := hle.trans hI23
  refine ⟨_, rfl, ?_⟩
  refine RW.op1 rfl (runs_pick_true rfl hk110 rfl) ?_
  refine RW.op1 rfl (runs_assign rfl) ?_
  refine RW.done ?_
  refine AQ.next ?_
  refine CW.ret ?_
  refine AQ.ret1 rfl rfl ?_
  exact ⟨rfl, _, hle, hst.sub (List.sublist_append_right _ _)⟩
end Go.Proofs.YtdhgbcbnkddfdaaX
