/- A log on a disk with power: formatted, opened, appended to, turned; the chapter's example. -/
import Derived.Test.YthocicjjighbnaaT
import Derived.Test.YthocicjjighbnaaG8
namespace Go.Proofs.YthocicjjighbnaaX
set_option linter.unusedVariables false
set_option linter.unusedSimpArgs false
open Go Go.RowKit Go.Proofs

theorem newR_L : newR 514 = newL := by
  unfold newR newL
  rw [if_neg (by decide), if_neg (by decide)]
  rfl
theorem DiskO.ok {d : Value} {S : DS} {Ld : Own} (hd : DiskO d S Ld) : DOk S := by obtain ⟨_, _, _, _, _, _, _, _, _, hok⟩ := hd; exact hok
theorem opn_er {S S' : DS} {er : Int} {G : LG} {bs : List (List UInt8)} (h : OpnR S S' er G bs) : True := trivial
theorem format_up {w0 w : World} {I : Imm} {L Ld : Own} {d : Value} {S : DS} (hd : DiskO d S Ld) (hst : St w0 w I (Ld ++ L)) (hu : Up S) (hl : S.secs.length = 514) (hpn : S.pend.length ≤ 600000) :
    Calls Try.prog 10 #[d] w fun e w' => ∃ I' Ld' S', Imm.le I I' ∧ e = .returned (.int .i64 0) ∧ St w0 w' I' (Ld' ++ L) ∧ DiskO d S' Ld' ∧ Up S' ∧ S'.pend = [] ∧ DI S'.secs slot1 [] 2 1 := by
  refine (format_log hd hst hpn).mono fun e w' ⟨I', Ld', S', er, h1, h2, h3, h4, h5⟩ => ?_
  rcases format_di hu.1 hl hd.ok h4.ok h5 with ⟨rfl, g1, g2, g3, g4⟩ | ⟨_, g, _⟩
  · exact ⟨I', Ld', S', h1, h2, h3, h4, ⟨g3, g4 hu.2⟩, g2, g1⟩
  · exact absurd hu.2 g
theorem open_up {w0 w : World} {I : Imm} {L Ld : Own} {d : Value} {S : DS} {s : Slot} {bs : List (List UInt8)} {a nx : Int} (hd : DiskO d S Ld) (hst : St w0 w I (Ld ++ L)) (hu : Up S) (hp : S.pend = []) (hdi : DI S.secs s bs a nx) (hb : s.n < 16777215 ∧ s.e < 65535) :
    Calls Try.prog 11 #[d] w fun e w' => ∃ I' Ld' lb y vs S', Imm.le I I' ∧ e = .returned (.tuple #[.pointer (some ⟨lb, 0, none⟩), y, .int .i64 0]) ∧ St w0 w' I' ((lb, .cells (logV d ⟨s.up, a, nx, 0⟩).toArray 69) :: (Ld' ++ L)) ∧ DiskO d S' Ld' ∧ RdR I' y vs bs ∧ LI S' ⟨s.up, a, nx, 0⟩ bs ∧ Up S' := by
  refine (open_log hd hst (by rw [hp]; exact Nat.zero_le _)).mono fun e w' ⟨I', Ld', Lo, x, y, S', er, G, bs', h1, h2, h3, h4, h5, h6⟩ => ?_
  rcases open_di hu.1 hp hdi hb h6 with ⟨rfl, rfl, rfl, g3, g4⟩ | ⟨_, g, _⟩
  · rcases h5 with ⟨h, _⟩ | ⟨_, lb, vs, rfl, rfl, hr⟩
    · exact absurd rfl h
    · exact ⟨I', Ld', lb, y, vs, S', h1, h2, h3, h4, hr, g3, g3.on, g4 hu.2⟩
  · exact absurd hu.2 g
theorem open_none {w0 w : World} {I : Imm} {L Ld : Own} {d : Value} (hd : DiskO d newL Ld) (hst : St w0 w I (Ld ++ L)) :
    Calls Try.prog 11 #[d] w fun e w' => ∃ I' Ld', Imm.le I I' ∧ e = .returned (.tuple #[.pointer none, .slice none 0 0, .int .i64 3]) ∧ St w0 w' I' (Ld' ++ L) ∧ DiskO d newL Ld' := by
  refine (open_log hd hst (Nat.zero_le _)).mono fun e w' ⟨I', Ld', Lo, x, y, S', er, G, bs', h1, h2, h3, h4, h5, h6⟩ => ?_
  obtain ⟨rfl, rfl⟩ := newL_opn h6
  rcases h5 with ⟨_, rfl, rfl, rfl⟩ | ⟨h, _⟩
  · exact ⟨I', Ld', h1, h2, h3, h4⟩
  · cases h
theorem append_up {w0 w : World} {I : Imm} {L Ld : Own} {d : Value} {S : DS} {lb : Nat} {G : LG} {bs : List (List UInt8)} (hd : DiskO d S Ld) (hst : St w0 w I ((lb, .cells (logV d G).toArray 69) :: (Ld ++ L))) (hu : Up S) (hli : LI S G bs) {vb : Value} {b : List UInt8} (hb : RdB I vb b) (hn : needN b.length ≤ 255) (hx : G.nx < 16777215) :
    Calls Try.prog 18 #[.pointer (some ⟨lb, 0, none⟩), vb] w fun e w' => ∃ I' Ld' S' G' er, Imm.le I I' ∧ e = .returned (.int .i64 er) ∧ St w0 w' I' ((lb, .cells (logV d G').toArray 69) :: (Ld' ++ L)) ∧ DiskO d S' Ld' ∧ Up S' ∧
      ((er = 5 ∧ G' = G ∧ LI S' G bs ∧ roomR G < (needN b.length : Nat)) ∨ (er = 0 ∧ (needN b.length : Nat) ≤ roomR G ∧ LI S' G' (bs ++ [b]) ∧ G' = G.to (G.at_ + (needN b.length : Nat)) (G.nx + 1))) := by
  have hrg := hli.di.rng
  refine (append_log hd hst hb (by unfold needN at hn; omega) (by omega) (by omega) (by omega) (by rw [hli.pn]; exact Nat.zero_le _)).mono fun e w' ⟨I', Ld', S', G', er, h1, h2, h3, h4, h5⟩ => ?_
  rcases append_li hli hn hx h4.ok h5 with ⟨rfl, rfl, rfl, g⟩ | ⟨rfl, g1, g2, g3, g4⟩ | ⟨_, g, _⟩
  · exact ⟨I', Ld', S', G', 5, h1, h2, h3, h4, hu, .inl ⟨rfl, rfl, hli, g⟩⟩
  · exact ⟨I', Ld', S', G', 0, h1, h2, h3, h4, ⟨g2.on, g4 hu.2⟩, .inr ⟨rfl, g1, g2, g3⟩⟩
  · exact absurd hu.2 g
theorem turn_up {w0 w : World} {I : Imm} {L Ld : Own} {d : Value} {S : DS} {lb : Nat} {G : LG} {bs bss : List (List UInt8)} (hd : DiskO d S Ld) (hst : St w0 w I ((lb, .cells (logV d G).toArray 69) :: (Ld ++ L))) (hu : Up S) (hli : LI S G bs) {v : Value} {vs : List Value} (hv : RdR I v vs bss) (hl : bss.length ≤ 1000) (hn : ∀ b ∈ bss, needN b.length ≤ 255) (hx : G.nx + (bss.length : Nat) ≤ 16777215) (hs : G.s.n < 16777214) :
    Calls Try.prog 22 #[.pointer (some ⟨lb, 0, none⟩), v] w fun e w' => ∃ I' Ld' S' G' er, Imm.le I I' ∧ e = .returned (.int .i64 er) ∧ St w0 w' I' ((lb, .cells (logV d G').toArray 69) :: (Ld' ++ L)) ∧ DiskO d S' Ld' ∧ Up S' ∧
      ((er = 5 ∧ G' = G ∧ LI S' G bs ∧ 256 < needS bss) ∨ (er = 0 ∧ needS bss ≤ 256 ∧ LI S' G' bss ∧ G' = ⟨turnS G, beginR (1 - G.s.h) + (needS bss : Nat), G.nx + (bss.length : Nat), 0⟩)) := by
  have hrg := hli.di.rng
  have hn1 := hli.di.n1
  refine (turn_log hd hst hv ⟨hl, fun b hb => by have := hn b hb; unfold needN at this; omega⟩ (by omega) (by omega) (by omega) (by omega) (by rw [hli.pn]; exact Nat.zero_le _)).mono fun e w' ⟨I', Ld', S', G', er, h1, h2, h3, h4, h5⟩ => ?_
  rcases turn_li hli hn hx hs h4.ok h5 with ⟨rfl, rfl, rfl, g⟩ | ⟨rfl, g1, g2, g3, g4⟩ | ⟨_, g, _⟩
  · exact ⟨I', Ld', S', G', 5, h1, h2, h3, h4, hu, .inl ⟨rfl, rfl, hli, g⟩⟩
  · exact ⟨I', Ld', S', G', 0, h1, h2, h3, h4, ⟨g2.on, g4 hu.2⟩, .inr ⟨rfl, g1, g2, g3⟩⟩
  · exact absurd hu.2 g
set_option maxRecDepth 100000 in
set_option maxHeartbeats 1000000 in
theorem wakes04_spec {w0 w : World} {I : Imm} {L : Own} (hst : St w0 w I L) :
    Calls Try.prog 19 #[] w fun e w' => e = .returned (.bool true) ∧ ∃ I', I.le I' ∧ St w0 w' I' L := by
  refine enter Try.func19 rfl (N := 50) rfl rfl ?_
  simp only [List.zipIdx_cons, List.zipIdx_nil, List.map_cons, List.map_nil, Nat.zero_add, Nat.reduceAdd]
  have hle := Imm.le.refl I
  refine CW.seq ?_
  -- region 0
  refine CW.region ?_
  refine RW.op1 rfl (runs_assign rfl) ?_
  refine RW.done ?_
  refine AQ.next ?_
  refine CW.seq ?_
  -- region 1
  refine CW.region ?_
  refine RW.call rfl call9 rfl rfl (new_spec hst 514) ?_
  rintro e w ⟨_, Ld, rfl, _, hstn, hd, a1, rfl⟩
  clear hst
  have hst := hstn
  clear hstn
  rw [newR_L] at hd
  refine ⟨_, rfl, ?_⟩
  refine RW.op1 rfl (runs_assign rfl) ?_
  refine RW.done ?_
  refine AQ.next ?_
  refine CW.seq ?_
  refine CW.seq ?_
  -- region 2
  refine CW.region ?_
  refine RW.op1 rfl (runs_move rfl) ?_
  refine RW.op1 rfl (runs_eq_nilptr Try.underlying24 rfl) ?_
  refine RW.done ?_
  refine AQ.next ?_
  refine CW.cond rfl (fun hc => absurd hc (by rw [(show (Option.isNone (some a1)) = false from rfl)]; decide)) (fun hc => ?_)
  refine CW.skip ?_
  refine AQ.next ?_
  refine CW.seq ?_
  -- region 4
  refine CW.region ?_
  refine RW.op1 rfl (runs_move rfl) ?_
  refine RW.call rfl call11 rfl rfl (open_none hd hst) ?_
  rintro e w ⟨I2, Ld1, hI2, rfl, hstn, hd1⟩
  clear hst
  have hst := hstn
  clear hstn
  replace hle := hle.trans hI2
  refine ⟨_, rfl, ?_⟩
  refine RW.op1 rfl (runs_move rfl) ?_
  refine RW.op1 rfl (runs_extract rfl rfl) ?_
  refine RW.op1 rfl (runs_extract rfl rfl) ?_
  refine RW.op1 rfl (runs_extract rfl rfl) ?_
  refine RW.op1 rfl (runs_assign rfl) ?_
  refine RW.op1 rfl (runs_assign rfl) ?_
  refine RW.op1 rfl (runs_assign rfl) ?_
  refine RW.done ?_
  refine AQ.next ?_
  refine CW.seq ?_
  refine CW.seq ?_
  -- region 5
  refine CW.region ?_
  refine RW.op1 rfl (runs_move rfl) ?_
  refine RW.op1 rfl (runs_neI rfl rfl) ?_
  refine RW.op1 rfl (runs_move rfl) ?_
  have hk18 := (show decide ((3 : Int) ≠ 3) = false by decide)
  refine RW.on_guard rfl rfl rfl rfl hk18 ?_
  refine RW.op1 rfl (runs_move rfl) ?_
  refine RW.on_guard rfl rfl rfl rfl hk18 ?_
  refine RW.call rfl call10 rfl rfl (format_up hd1 hst ⟨rfl, rfl⟩ (List.length_replicate ..) (Nat.zero_le _)) ?_
  rintro e w ⟨I3, Ld2, S2, hI3, rfl, hstn, hd2, hu2, hp2, hdi2⟩
  clear hst
  have hst := hstn
  clear hstn
  replace hle := hle.trans hI3
  refine ⟨_, rfl, ?_⟩
  refine RW.on_guard rfl rfl rfl rfl hk18 ?_
  refine RW.op1 rfl (runs_neI rfl rfl) ?_
  refine RW.op1 rfl (runs_pick_false rfl hk18 rfl) ?_
  refine RW.done ?_
  refine AQ.next ?_
  refine CW.cond rfl (fun hc => absurd hc (by decide)) (fun hc => ?_)
  refine CW.skip ?_
  refine AQ.next ?_
  refine CW.seq ?_
  -- region 7
  refine CW.region ?_
  refine RW.op1 rfl (runs_move rfl) ?_
  refine RW.call rfl call11 rfl rfl (open_up hd2 hst hu2 hp2 hdi2 (by decide)) ?_
  rintro e w ⟨I4, Ld3, lb, y, vs, S3, hI4, rfl, hstn, hd3, hr3, hli3, hu3⟩
  clear hst
  have hst := hstn
  clear hstn
  replace hle := hle.trans hI4
  refine ⟨_, rfl, ?_⟩
  refine RW.op1 rfl (runs_move rfl) ?_
  refine RW.op1 rfl (runs_extract rfl rfl) ?_
  refine RW.op1 rfl (runs_extract rfl rfl) ?_
  refine RW.op1 rfl (runs_extract rfl rfl) ?_
  refine RW.op1 rfl (runs_assign rfl) ?_
  refine RW.op1 rfl (runs_assign rfl) ?_
  refine RW.op1 rfl (runs_assign rfl) ?_
  refine RW.done ?_
  refine AQ.next ?_
  refine CW.seq ?_
  -- region 8
  refine CW.region ?_
  refine RW.op1 rfl (runs_move rfl) ?_
  refine RW.op1 rfl (runs_eqI rfl rfl) ?_
  refine RW.op1 rfl (runs_move rfl) ?_
  have hk31 := (show decide ((0 : Int) = 0) = true by decide)
  refine RW.on_guard rfl rfl rfl rfl hk31 ?_
  refine RW.op1 rfl (runs_move rfl) ?_
  refine RW.on_guard rfl rfl rfl rfl hk31 ?_
  refine RW.op1 rfl (runs_ne_nilptr Try.underlying28 rfl) ?_
  refine RW.op1 rfl (runs_pick_true rfl hk31 rfl) ?_
  refine RW.op1 rfl (runs_move rfl) ?_
  have hk35 := (show (!(Option.isNone (some (⟨lb, 0, none⟩ : Addr)))) = true from rfl)
  refine RW.on_guard rfl rfl rfl rfl hk35 ?_
  refine RW.op1 rfl (runs_move rfl) ?_
  refine RW.on_guard rfl rfl rfl rfl hk35 ?_
  refine RW.op1 rfl (RdL.len Try.underlying29 rfl hr3.1) ?_
  refine RW.on_guard rfl rfl rfl rfl hk35 ?_
  refine RW.op1 rfl (runs_eqI rfl rfl) ?_
  refine RW.op1 rfl (runs_pick_true rfl hk35 rfl) ?_
  refine RW.op1 rfl (runs_move rfl) ?_
  have hk40 := (show decide (((vs.length : Nat) : Int) = 0) = true by rw [hr3.2.1]; rfl)
  refine RW.on_guard rfl rfl rfl rfl hk40 ?_
  refine RW.op1 rfl (runs_move rfl) ?_
  refine RW.on_guard rfl rfl rfl rfl hk40 ?_
  refine RW.call rfl call16 rfl rfl (epoch_spec hst) ?_
  rintro e w ⟨rfl, hstn⟩
  clear hst
  have hst := hstn
  clear hstn
  refine ⟨_, rfl, ?_⟩
  refine RW.on_guard rfl rfl rfl rfl hk40 ?_
  refine RW.op1 rfl (runs_eqI rfl rfl) ?_
  refine RW.op1 rfl (runs_pick_true rfl hk40 rfl) ?_
  refine RW.op1 rfl (runs_move rfl) ?_
  have hk45 := (show decide (slot1.up.e = 2) = true by decide)
  refine RW.on_guard rfl rfl rfl rfl hk45 ?_
  refine RW.op1 rfl (runs_move rfl) ?_
  refine RW.on_guard rfl rfl rfl rfl hk45 ?_
  refine RW.call rfl call23 rfl rfl (room_spec hst (by decide) (by decide)) ?_
  rintro e w ⟨rfl, hstn⟩
  clear hst
  have hst := hstn
  clear hstn
  refine ⟨_, rfl, ?_⟩
  refine RW.on_guard rfl rfl rfl rfl hk45 ?_
  refine RW.op1 rfl (runs_eqI rfl rfl) ?_
  refine RW.op1 rfl (runs_pick_true rfl hk45 rfl) ?_
  refine RW.op1 rfl (runs_assign rfl) ?_
  refine RW.done ?_
  refine AQ.next ?_
  refine CW.ret ?_
  refine AQ.ret1 rfl rfl ?_
  exact ⟨rfl, _, hle, hst.sub ((List.sublist_append_right _ _).trans (List.sublist_cons_self _ _))⟩
end Go.Proofs.YthocicjjighbnaaX
