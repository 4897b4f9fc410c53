/- A log turned again and again, cut off: what the laws keep; what is kept of writes. -/
import Derived.Test.YthocicjjighbnaaT
import Derived.Test.YthocicjjighbnaaG12
namespace Go.Proofs.YthocicjjighbnaaX
set_option linter.unusedVariables false
set_option linter.unusedSimpArgs false
open Go Go.RowKit Go.Proofs

/-- A slice of rows, with no room behind it. -/
def fullV (v : Value) (n : Nat) : Value := match v with
  | .slice A _ _ => sliced A 0 n n 1
  | v => v
theorem RdR.fullR {I : Imm} {v : Value} {vs : List Value} {bss : List (List UInt8)} (h : RdR I v vs bss) : ∃ A, fullV v vs.length = .slice A vs.length vs.length ∧ RdR I (.slice A vs.length vs.length) vs bss := by
  obtain ⟨⟨h1, h2, A, cap, rfl, h3, h4⟩, h5, h6⟩ := h
  have h7 : RdL I 1 (.slice A vs.length vs.length) vs.length vs := ⟨h1, h2, A, vs.length, rfl, Nat.le_refl _, h4⟩
  have h8 := h7.part (lo := 0) (hi := vs.length) (Nat.zero_le _) (Nat.le_refl _)
  have e1 : ((vs.drop (0 * 1)).take ((vs.length - 0) * 1)) = vs := by simp
  rw [e1] at h8
  exact ⟨_, rfl, h8, h5, h6⟩
theorem RdR.full {P : Program} {l : Env} {ty : TypeId} {w : World} {I : Imm} {t e : TypeId} {x y y' : Operand} {z : Value} {bytes : Nat} {v : Value} {vs : List Value} {bss : List (List UInt8)} (ht : P.underlying t = some (.slice e)) (he : TI P e z 1 bytes) (hx : ev l x = some v) (hy : ev l y = some (.int .i64 (vs.length : Nat))) (hy' : ev l y' = some (.int .i64 (vs.length : Nat))) (h : RdR I v vs bss) :
    Runs P (.slice t x none (some y) (some y')) ty l w (.value (fullV v vs.length)) w := by
  obtain ⟨⟨h1, h2, A, cap, rfl, h3, h4⟩, h5, h6⟩ := h
  exact runs_slice_hm (w := w) (ty := ty) ht he hx hy hy' (by omega)
theorem RdI.dropE {J : Imm} {v : Value} {xs : List Int} (h : RdI J v xs) {lo : Nat} (hlo : lo ≤ xs.length) : RdI J (Go.Proofs.YthocicjjighbnaaX.partV v lo xs.length 1) (xs.drop lo) := by
  have h1 := RdL.partV h (lo := lo) (hi := xs.length) hlo (Nat.le_refl _)
  rw [Nat.mul_one, Nat.mul_one, ← List.map_drop, List.take_of_length_le (by rw [List.length_map, List.length_drop]; exact Nat.le_refl _)] at h1
  show RdL J 1 _ (xs.drop lo).length _
  rw [List.length_drop]
  exact h1
theorem crash_up (S : DS) (ks : List Int) : Up (crashR S ks) := ⟨rfl, rfl⟩
theorem LI.crash {S : DS} {G : LG} {bs : List (List UInt8)} (h : LI S G bs) (ks : List Int) : DI (crashR S ks).secs G.s bs G.at_ G.nx := by
  rw [crash_nil h.pn]
  exact h.di
theorem LI.limit {S : DS} {G : LG} {bs : List (List UInt8)} (h : LI S G bs) (x : Int) : LI { S with left := x } G bs := ⟨h.on, h.pn, h.ok, h.di, h.st⟩
/-- Turned with what power there is. -/
theorem turn_any {w0 w : World} {I : Imm} {L Ld : Own} {d : Value} {S : DS} {lb : Nat} {G : LG} {bs bss : List (List UInt8)} (hd : DiskO d S Ld) (hst : St w0 w I ((lb, .cells (logV d G).toArray 69) :: (Ld ++ L))) (hli : LI S G bs) {v : Value} {vs : List Value} (hv : RdR I v vs bss) (hl : bss.length ≤ 1000) (hn : ∀ b ∈ bss, needN b.length ≤ 255) (hx : G.nx + (bss.length : Nat) ≤ 16777215) (hs : G.s.n < 16777214) :
    Calls Try.prog 22 #[.pointer (some ⟨lb, 0, none⟩), v] w fun e w' => ∃ I' Ld' S' G' er, Imm.le I I' ∧ e = .returned (.int .i64 er) ∧ St w0 w' I' ((lb, .cells (logV d G').toArray 69) :: (Ld' ++ L)) ∧ DiskO d S' Ld' ∧ (S.left = -1 → er ≠ 8) ∧
      ((er = 5 ∧ S' = S ∧ G' = G ∧ 256 < needS bss) ∨ (er = 0 ∧ needS bss ≤ 256 ∧ LI S' G' bss ∧ G' = ⟨turnS G, beginR (1 - G.s.h) + (needS bss : Nat), G.nx + (bss.length : Nat), 0⟩ ∧ (S.left = -1 → S'.left = -1)) ∨ (er = 8 ∧ S'.down = true ∧ ∀ ks, DI (crashR S' ks).secs G.s bs G.at_ G.nx)) := by
  have hrg := hli.di.rng
  have hn1 := hli.di.n1
  refine (turn_log hd hst hv ⟨hl, fun b hb => by have := hn b hb; unfold needN at this; omega⟩ (by omega) (by omega) (by omega) (by omega) (by rw [hli.pn]; exact Nat.zero_le _)).mono fun e w' ⟨I', Ld', S', G', er, h1, h2, h3, h4, h5⟩ => ?_
  rcases turn_li hli hn hx hs h4.ok h5 with ⟨rfl, g1, g2, g⟩ | ⟨rfl, g1, g2, g3, g4⟩ | ⟨rfl, g1, g2, _, g4⟩
  · exact ⟨I', Ld', S', G', 5, h1, h2, h3, h4, fun _ => by decide, .inl ⟨rfl, g1, g2, g⟩⟩
  · exact ⟨I', Ld', S', G', 0, h1, h2, h3, h4, fun _ => by decide, .inr (.inl ⟨rfl, g1, g2, g3, g4⟩)⟩
  · exact ⟨I', Ld', S', G', 8, h1, h2, h3, h4, fun h => absurd h g1, .inr (.inr ⟨rfl, g2, g4⟩)⟩
/-- Appended with what power there is. -/
theorem append_any {w0 w : World} {I : Imm} {L Ld : Own} {d : Value} {S : DS} {lb : Nat} {G : LG} {bs : List (List UInt8)} (hd : DiskO d S Ld) (hst : St w0 w I ((lb, .cells (logV d G).toArray 69) :: (Ld ++ L))) (hli : LI S G bs) {vb : Value} {b : List UInt8} (hb : RdB I vb b) (hn : needN b.length ≤ 255) (hx : G.nx < 16777215) :
    Calls Try.prog 18 #[.pointer (some ⟨lb, 0, none⟩), vb] w fun e w' => ∃ I' Ld' S' G' er, Imm.le I I' ∧ e = .returned (.int .i64 er) ∧ St w0 w' I' ((lb, .cells (logV d G').toArray 69) :: (Ld' ++ L)) ∧ DiskO d S' Ld' ∧ (S.left = -1 → er ≠ 8) ∧
      ((er = 5 ∧ S' = S ∧ G' = G ∧ roomR G < (needN b.length : Nat)) ∨ (er = 0 ∧ LI S' G' (bs ++ [b]) ∧ G' = G.to (G.at_ + (needN b.length : Nat)) (G.nx + 1) ∧ (S.left = -1 → S'.left = -1)) ∨ (er = 8 ∧ S'.down = true ∧ ∀ ks, DI (crashR S' ks).secs G.s bs G.at_ G.nx)) := by
  have hrg := hli.di.rng
  refine (append_log hd hst hb (by unfold needN at hn; omega) (by omega) (by omega) (by omega) (by rw [hli.pn]; exact Nat.zero_le _)).mono fun e w' ⟨I', Ld', S', G', er, h1, h2, h3, h4, h5⟩ => ?_
  rcases append_li hli hn hx h4.ok h5 with ⟨rfl, g1, g2, g⟩ | ⟨rfl, g1, g2, g3, g4⟩ | ⟨rfl, g1, g2, _, g4⟩
  · exact ⟨I', Ld', S', G', 5, h1, h2, h3, h4, fun _ => by decide, .inl ⟨rfl, g1, g2, g⟩⟩
  · exact ⟨I', Ld', S', G', 0, h1, h2, h3, h4, fun _ => by decide, .inr (.inl ⟨rfl, g2, g3, g4⟩)⟩
  · exact ⟨I', Ld', S', G', 8, h1, h2, h3, h4, fun h => absurd h g1, .inr (.inr ⟨rfl, g2, g4⟩)⟩
/-- Opened with what power there is. -/
theorem open_any {w0 w : World} {I : Imm} {L Ld : Own} {d : Value} {S : DS} {s : Slot} {bs : List (List UInt8)} {a nx : Int} (hd : DiskO d S Ld) (hst : St w0 w I (Ld ++ L)) (hdn : S.down = false) (hp : S.pend = []) (hdi : DI S.secs s bs a nx) (hb : s.n < 16777215 ∧ s.e < 65535) :
    Calls Try.prog 11 #[d] w fun e w' => ∃ I' Ld' Lo x y S' er s', Imm.le I I' ∧ e = .returned (.tuple #[x, y, .int .i64 er]) ∧ St w0 w' I' (Lo ++ (Ld' ++ L)) ∧ DiskO d S' Ld' ∧ (er = 0 ∨ er = 8) ∧ (∀ ks, DI (crashR S' ks).secs s' bs a nx) ∧ (s' = s ∨ s' = s.up) := by
  refine (open_log hd hst (by rw [hp]; exact Nat.zero_le _)).mono fun e w' ⟨I', Ld', Lo, x, y, S', er, G, bs', h1, h2, h3, h4, h5, h6⟩ => ?_
  rcases open_di hdn hp hdi hb h6 with ⟨rfl, rfl, rfl, g3, g4⟩ | ⟨rfl, _, _, g3, g4⟩
  · exact ⟨I', Ld', Lo, x, y, S', 0, s.up, h1, h2, h3, h4, .inl rfl, fun ks => g3.crash ks, .inr rfl⟩
  · exact ⟨I', Ld', Lo, x, y, S', 8, s, h1, h2, h3, h4, .inr rfl, fun ks => by rw [crash_nil g3, g4]; exact hdi, .inl rfl⟩
set_option maxRecDepth 100000 in
set_option maxHeartbeats 1000000 in
theorem keeps_spec {w0 w : World} {I : Imm} {L : Own} (hst : St w0 w I L) {vk : Value} {ks : List Int} (hk0 : RdI I vk ks) (hks : ∀ x ∈ ks, i64ok x) (hkl : ks.length ≤ 1048576) (f : Int) (hf : i64ok f) :
    Calls Try.prog 27 #[vk, .int .i64 f] w fun e w' => ∃ I' v' zs, I.le I' ∧ e = .returned v' ∧ St w0 w' I' L ∧ RdI I' v' zs := by
  refine enter Try.func27 rfl (N := 27) rfl rfl ?_
  simp only [List.zipIdx_cons, List.zipIdx_nil, List.map_cons, List.map_nil, Nat.zero_add, Nat.reduceAdd]
  have hle := Imm.le.refl I
  refine CW.seq ?_
  -- region 0
  refine CW.region ?_
  refine RW.op1 rfl (runs_assign rfl) ?_
  refine RW.done ?_
  refine AQ.next ?_
  refine CW.seq ?_
  -- region 1
  refine CW.region ?_
  refine RW.op1 rfl (runs_assign rfl) ?_
  refine RW.done ?_
  refine AQ.next ?_
  refine CW.seq ?_
  refine CW.seq ?_
  -- region 2
  refine CW.region ?_
  refine RW.op1 rfl (runs_move rfl) ?_
  refine RW.op1 rfl (runs_move rfl) ?_
  refine RW.op1 rfl (runs_move rfl) ?_
  refine RW.op1 rfl (RdL.len Try.underlying22 rfl hk0) ?_
  refine RW.op1 rfl (runs_add rfl rfl (by omega)) ?_
  refine RW.call rfl call8 rfl rfl (within_spec hst (v := f) (n := (ks.length : Int) + 1) hf (by unfold i64ok; omega)) ?_
  rintro e w ⟨rfl, hstn⟩
  clear hst
  have hst := hstn
  clear hstn
  have hw := within_range f ((ks.length : Int) + 1)
  generalize within f ((ks.length : Int) + 1) = x13 at *
  refine ⟨_, rfl, ?_⟩
  have hk2 := RdI.dropE hk0 (lo := x13.toNat) (by omega)
  refine RW.op1 rfl (RdL.slice_l Try.underlying22 ti3 rfl rfl hk0 (by omega)) ?_
  have hks2 : ∀ x ∈ ks.drop x13.toNat, i64ok x := fun x hx => hks x (List.mem_of_mem_drop hx)
  have hkl2 : (ks.drop x13.toNat).length ≤ 1048576 := by rw [List.length_drop]; omega
  obtain ⟨k2, hk2e⟩ : ∃ k2, ks.drop x13.toNat = k2 := ⟨_, rfl⟩
  rw [hk2e] at hk2 hks2 hkl2
  obtain ⟨v2, hv2⟩ : ∃ v, v = Go.Proofs.YthocicjjighbnaaX.partV vk x13.toNat ks.length 1 := ⟨_, rfl⟩
  rw [← hv2] at hk2 ⊢
  refine RW.op1 rfl (RdL.len Try.underlying22 rfl hk2) ?_
  refine RW.op1 rfl (runs_move rfl) ?_
  refine RW.done ?_
  refine AQ.next ?_
  refine CW.block ?_
  -- loop 1
  refine CW.loop (Nat × Imm × Value × List Int × Own) (fun x w => I.le x.2.1 ∧ St w0 w x.2.1 (x.2.2.2.2 ++ L) ∧ RdI x.2.1 v2 k2 ∧ Grow 3 1 x.2.2.1 x.2.2.2.1.length (x.2.2.2.1.map (Value.int .i64)) x.2.2.2.2 ∧ (x.1 ≤ k2.length ∧ x.2.2.2.1.length ≤ x.1)) (fun x => [(5, x.2.2.1), (14, v2), (15, .int .i64 (k2.length : Nat)), (16, .int .i64 (x.1 : Nat))]) (fun x => k2.length - x.1) ⟨(0, _, _, [], []), ⟨hle, hst, hk2, Grow.nil _ _, Nat.zero_le _, Nat.zero_le _⟩, ⟨rfl, rfl, rfl, rfl, trivial⟩⟩ ?_
  clear hle hst hk2
  rintro ⟨j, IJ, vo, zs, Lo⟩ w ⟨hle, hst, hk2, hgo, hj⟩
  dsimp only at hle hst hk2 hgo hj ⊢
  refine CW.seq ?_
  -- region 3
  refine CW.region ?_
  refine RW.op1 rfl (runs_lss rfl rfl) ?_
  refine RW.done ?_
  refine AQ.next ?_
  refine CW.seq ?_
  refine CW.cond rfl (fun hc17 => ?_) (fun hc17 => ?_)
  · have hcb17 := hc17
    try simp only [decide_eq_true_eq, decide_eq_false_iff_not] at hc17
    have hj1 : j < k2.length := by omega
    refine CW.skip ?_
    refine AQ.next ?_
    refine CW.seq ?_
    refine CW.block ?_
    refine CW.seq ?_
    -- region 4
    refine CW.region ?_
    refine RW.op1 rfl (RdL.indexAddr Try.underlying22 ti3 (by decide) rfl rfl hk2 (by omega)) ?_
    first
      | refine RW.op1 rfl (runs_load1 sc3 rfl (hst.cell_imm (RdI.at (by assumption) (by omega) (by omega)))) ?_
      | refine RW.op1 rfl (runs_load1 sc3 rfl (hst.cell_own (k := 0) rfl rfl)) ?_
      | refine RW.op1 rfl (runs_load1 sc3 rfl (hst.cell_own (k := 1) rfl rfl)) ?_
      | refine RW.op1 rfl (runs_load1 sc3 rfl (hst.cell_own (k := 2) rfl rfl)) ?_
    refine RW.op1 rfl (runs_assign rfl) ?_
    refine RW.done ?_
    refine AQ.next ?_
    -- region 5
    refine CW.region ?_
    refine RW.op1 rfl (runs_move rfl) ?_
    refine RW.op1 rfl (runs_move rfl) ?_
    refine RW.call rfl call8 rfl rfl (within_spec hst (v := iat k2 (j : Int)) (n := 4) (iat_okE hks2 (by omega) (by omega)) (by unfold i64ok; decide)) ?_
    rintro e w ⟨rfl, hstn⟩
    clear hst
    have hst := hstn
    clear hstn
    refine ⟨_, rfl, ?_⟩
    refine RW.opE rfl (runs_lit1R (xs := [.int .i64 (within (iat k2 (j : Int)) 4)]) Try.underlying22 ti3 (by decide) rfl rfl rfl (by simp [Value.oneCell']) hst) ?_
    rintro u3 w ⟨I3, hI3, hstn, h3⟩
    clear hst
    have hst := hstn
    clear hstn
    replace hk2 := hk2.mono hI3
    replace hle := hle.trans hI3
    refine RW.opE rfl (runs_appendR Try.underlying22 ti3 rfl (by decide) rfl rfl hst hgo (by assumption) (by omega) (by unfold maxLen; omega)) ?_
    rintro u4 w ⟨Lv4, hstn, hg4⟩
    clear hst
    have hst := hstn
    clear hstn
    have hgo2 := hg4
    refine RW.op1 rfl (runs_assign rfl) ?_
    refine RW.done ?_
    refine AQ.block_normal ?_
    refine AQ.next ?_
    -- region 6
    refine CW.region ?_
    refine RW.op1 rfl (runs_add rfl rfl (by omega)) ?_
    refine RW.op1 rfl (runs_move rfl) ?_
    refine RW.done ?_
    exact AQ.again (x := (j, IJ, vo, zs, Lo)) (j + 1, _, _, zs ++ [within (iat k2 (j : Int)) 4], _) ⟨hle, hst, hk2, by simpa using hgo2, by dsimp only; omega, by dsimp only; rw [List.length_append]; simp; omega⟩ ⟨rfl, rfl, rfl, rfl, trivial⟩ (by dsimp only; omega)
  · have hcb17 := hc17
    try simp only [decide_eq_true_eq, decide_eq_false_iff_not] at hc17
    skip
    refine CW.exit ?_
    refine AQ.past_exit ?_
    refine AQ.past_exit ?_
    refine AQ.block_hit ?_
    refine AQ.next ?_
    refine CW.seq ?_
    -- region 7
    refine CW.region ?_
    refine RW.op1 rfl (runs_move rfl) ?_
    refine RW.op1 rfl (runs_assign rfl) ?_
    refine RW.done ?_
    refine AQ.next ?_
    refine CW.ret ?_
    refine AQ.ret1 rfl rfl ?_
    obtain ⟨I', h1, h2, h3⟩ := hgo.freeze hst
    exact ⟨I', _, zs, hle.trans h1, rfl, h2, h3⟩
end Go.Proofs.YthocicjjighbnaaX
