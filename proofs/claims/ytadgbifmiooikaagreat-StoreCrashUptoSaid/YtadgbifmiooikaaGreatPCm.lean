/- Parts of a proof, joined: walks through the program's functions and their laws, in the order in which they need each other. -/
import Derived.Test.YtadgbifmiooikaaGreatPCb
import Derived.Test.YtadgbifmiooikaaGreatPCl
import Derived.Test.YtadgbifmiooikaaGreatPCc
import Derived.Lib.SplitLaws
import Derived.Lib.SlicesS
namespace Go.Proofs.YtadgbifmiooikaaGreatX
set_option linter.unusedVariables false
set_option linter.unusedSimpArgs false
open Go Go.RowKit Go.Proofs
set_option maxRecDepth 100000 in
set_option maxHeartbeats 4000000 in
theorem do_any {w0 w : World} {I : Imm} {L Ld Lt : Own} {d : Value} {S : DS} {lb bT bS : Nat} {G : LG} {bs : List (List UInt8)} {rows : List TRow} {next : Int} (hd : DiskO d S Ld) (hst : St w0 w I ((bS, Obj.cells #[.pointer (some ⟨lb, 0, none⟩), .pointer (some ⟨bT, 0, none⟩)] 71) :: (lb, Obj.cells (logV d G).toArray 92) :: (Ld ++ (Lt ++ L)))) (hli : LI S G bs) (hdt : TbO I rows next bT Lt) (hti : TbI (absT rows) next) (hsi : SI bs (absT rows) next) {c : Int} (hcc : c ≤ 10000) (hg : GB c G) {vb : Value} {b : List UInt8} (hb : RdB I vb b) (hrm : Room (absT rows) next b) :
    Calls Tryz.prog 30 #[.pointer (some ⟨bS, 0, none⟩), vb] w fun e w' => ∃ I' Ld' S' G' rows' next' Lt' er, I.le I' ∧ e = .returned (.int .i64 er) ∧ St w0 w' I' ((bS, Obj.cells #[.pointer (some ⟨lb, 0, none⟩), .pointer (some ⟨bT, 0, none⟩)] 71) :: (lb, Obj.cells (logV d G').toArray 92) :: (Ld' ++ (Lt' ++ L))) ∧ DiskO d S' Ld' ∧ TbO I' rows' next' bT Lt' ∧ (S.left = -1 → er ≠ 8) ∧ ((er = 0 ∧ (absT rows', next') = apS (absT rows, next) b ∧ (∃ bs', LI S' G' bs' ∧ SI bs' (absT rows') next') ∧ GB (c + 1) G' ∧ (S.left = -1 → S'.left = -1) ∧ ((needN (b).length : Nat) ≤ roomR G → G' = G.to (G.at_ + (needN (b).length : Nat)) (G.nx + 1))) ∨ (er = 8 ∧ rows' = rows ∧ next' = next ∧ S'.down = true ∧ ∀ ks, DI (crashR S' ks).secs G.s bs G.at_ G.nx)) := by
  have hg0 := hg; obtain ⟨g1, g2, g3⟩ := hg0; obtain ⟨tt1, tt2⟩ := turn_ok hti hrm.t; refine enter Tryz.func30 rfl (N := 26) rfl rfl ?_
  simp only [zA, zB, zC, zD, zE, Nat.reduceAdd]
  have hle := Imm.le.refl I; refine zR <| zS rfl rfl <| zN <| zm rfl rfl <| z1 rfl (runs_nilCheck rfl) <| zp rfl rfl U71 rfl ti63 rfl <| zl 0 rfl sc63 rfl hst rfl rfl <| zm rfl rfl <| zK rfl call52 rfl rfl (append_any hd (hst.perm permS3) hli hb hrm.bn (by omega)) ?_; clear hst; rintro e w ⟨J11, Ld1, S1, G1, er1, hJ11, rfl, hst, hd1, hne, hres⟩; replace hst := hst.perm permS3.symm; replace hdt := hdt.mono hJ11; replace hb := hb.mono hJ11; replace hle := hle.trans hJ11; refine ⟨_, rfl, ?_⟩; refine zS rfl rfl <| zM <| zk <| zR <| zm rfl rfl <| z1 rfl (runs_eqI rfl rfl) <| zM <| zX (Imm × Own × DS × LG × Int) (fun y w => I.le y.1 ∧ RdB y.1 vb b ∧ TbO y.1 rows next bT Lt ∧ DiskO d y.2.2.1 y.2.1 ∧ (S.left = -1 → y.2.2.2.2 ≠ 8) ∧ ((y.2.2.2.2 = 0 ∧ (∃ bs', LI y.2.2.1 y.2.2.2.1 bs' ∧ SI bs' (apS (absT rows, next) b).1 (apS (absT rows, next) b).2) ∧ GB (c + 1) y.2.2.2.1 ∧ (S.left = -1 → y.2.2.1.left = -1) ∧ ((needN b.length : Nat) ≤ roomR G → y.2.2.2.1 = G.to (G.at_ + (needN b.length : Nat)) (G.nx + 1))) ∨ (y.2.2.2.2 = 8 ∧ y.2.2.1.down = true ∧ ∀ ks, DI (crashR y.2.2.1 ks).secs G.s bs G.at_ G.nx)) ∧ St w0 w y.1 ((bS, Obj.cells #[.pointer (some ⟨lb, 0, none⟩), .pointer (some ⟨bT, 0, none⟩)] 71) :: (lb, Obj.cells (logV d y.2.2.2.1).toArray 92) :: (y.2.1 ++ (Lt ++ L)))) (fun y => [(0, .pointer (some ⟨bS, 0, none⟩)), (1, vb), (5, .int .i64 y.2.2.2.2)]) ?_ ?_
  · refine zb rfl (fun hc13 => ?_) (fun hc13 => ?_)
    · have hcb13 := hc13; (try simp only [dY, dF] at hc13); refine zg ?_; obtain ⟨rfl, rfl, rfl, hroom⟩ := hres.elim id (fun h => by rcases h with ⟨h, _⟩ | ⟨h, _⟩ <;> omega); refine zm rfl rfl <| zm rfl rfl <| zK rfl call53 rfl rfl (turned_spec hd1 hst hli hdt hti hcc hg hb hrm) ?_; clear hst; rintro e w ⟨J16, Ld2, S2, G2, er2, hJ16, rfl, hst, hd2, hne2, hres2⟩; replace hdt := hdt.mono hJ16; replace hb := hb.mono hJ16; replace hle := hle.trans hJ16; refine ⟨_, rfl, ?_⟩; refine zS rfl rfl <| zd ?_; exact zv (_, Ld2, S2, G2, er2) ⟨hle, hb, hdt, hd2, hne2, hres2.imp (fun h => ⟨h.1, ⟨_, h.2.1, tt2⟩, h.2.2.1, h.2.2.2, fun h5 => absurd h5 (by omega)⟩) id, hst⟩ ⟨rfl, rfl, rfl, trivial⟩
    · have hcb13 := hc13; (try simp only [dY, dF] at hc13); refine zj ?_; exact zv (_, Ld1, S1, G1, er1) ⟨hle, hb, hdt, hd1, hne, (hres.resolve_left (fun h => hc13 h.1)).imp (fun h => ⟨h.1, ⟨_, h.2.1, hsi.add hti.nd hrm.b0⟩, (by rw [h.2.2.1]; unfold GB LG.to; dsimp only; omega), h.2.2.2, fun _ => h.2.2.1⟩) id, hst⟩ ⟨rfl, rfl, rfl, trivial⟩
  · clear hle hb hdt hd1 hst hres hne; rintro ⟨J3, Ld3, S3, G3, er3⟩ w ⟨hle, hb, hdt, hd3, hne, hres, hstn⟩; dsimp only at hle hb hdt hd3 hne hres hstn ⊢; have hst := hstn; clear hstn; refine za <| zk <| zR <| zm rfl rfl <| z1 rfl (runs_neI rfl rfl) <| zM <| zb rfl (fun hc18 => ?_) (fun hc18 => ?_)
    · have hcb18 := hc18; (try simp only [dY, dF] at hc18); obtain ⟨he8, hdn, hcr⟩ := hres.resolve_left (fun h => hc18 h.1); refine zR <| zm rfl rfl <| zS rfl rfl <| zM <| CW.ret <| zr <| z9 rfl rfl ?_; exact ⟨_, Ld3, S3, G3, rows, next, Lt, er3, hle, rfl, hst, hd3, hdt, hne, .inr ⟨he8, rfl, rfl, hdn, hcr⟩⟩
    · have hcb18 := hc18; (try simp only [dY, dF] at hc18); obtain ⟨he0, ⟨bs2, hli2, hsi2⟩, hgb2, hlf, hto⟩ := hres.resolve_right (fun h => by have := h.1; omega); refine zj <| za <| zR <| zm rfl rfl <| z1 rfl (runs_nilCheck rfl) <| zp rfl rfl U71 rfl ti67 rfl <| zl 0 rfl sc67 rfl hst rfl rfl <| zm rfl rfl <| zK rfl call48 rfl rfl (apply_spec hdt (hst.perm permS2) hb (by have := hrm.b0.2; omega)) ?_; clear hst; rintro e w ⟨J25, rows3, nx3, Lt3, er4, hJ25, rfl, hst, hdt3, hap⟩; obtain ⟨hea, hab⟩ := Ap_abs hap; rw [hrm.b0.1] at hea; replace hdt := hdt.mono hJ25; replace hb := hb.mono hJ25; replace hle := hle.trans hJ25; refine ⟨_, rfl, ?_⟩; refine zS rfl rfl <| zM <| CW.ret <| z9 rfl rfl ?_; rw [← hab] at hsi2; exact ⟨_, Ld3, S3, G3, rows3, nx3, Lt3, er4, hle, rfl, hst.perm permS2.symm, hd3, hdt3, fun _ => by omega, .inl ⟨hea, hab, ⟨bs2, hli2, hsi2⟩, hgb2, hlf, hto⟩⟩
set_option maxRecDepth 100000 in
set_option maxHeartbeats 4000000 in
theorem sput_any {w0 w : World} {I : Imm} {L Ld Lt : Own} {d : Value} {S : DS} {lb bT bS : Nat} {G : LG} {bs : List (List UInt8)} {rows : List TRow} {next : Int} (hd : DiskO d S Ld) (hst : St w0 w I ((bS, Obj.cells #[.pointer (some ⟨lb, 0, none⟩), .pointer (some ⟨bT, 0, none⟩)] 71) :: (lb, Obj.cells (logV d G).toArray 92) :: (Ld ++ (Lt ++ L)))) (hli : LI S G bs) (hdt : TbO I rows next bT Lt) (hti : TbI (absT rows) next) (hsi : SI bs (absT rows) next) {c : Int} (hcc : c ≤ 10000) (hg : GB c G) {it : It} {vh : Value} (hv : RdH I vh it.heads) (hok : ItOk it) (ho : encOk (itAV it) = true) (hrm : Room (absT rows) next (recB it)) :
    Calls Tryz.prog 13 #[.pointer (some ⟨bS, 0, none⟩), itv it vh] w fun e w' => ∃ I' Ld' S' G' rows' next' Lt' er, I.le I' ∧ e = .returned (.int .i64 er) ∧ St w0 w' I' ((bS, Obj.cells #[.pointer (some ⟨lb, 0, none⟩), .pointer (some ⟨bT, 0, none⟩)] 71) :: (lb, Obj.cells (logV d G').toArray 92) :: (Ld' ++ (Lt' ++ L))) ∧ DiskO d S' Ld' ∧ TbO I' rows' next' bT Lt' ∧ (S.left = -1 → er ≠ 8) ∧ ((er = 0 ∧ (absT rows', next') = apS (absT rows, next) (recB it) ∧ (∃ bs', LI S' G' bs' ∧ SI bs' (absT rows') next') ∧ GB (c + 1) G' ∧ (S.left = -1 → S'.left = -1) ∧ ((needN ((recB it)).length : Nat) ≤ roomR G → G' = G.to (G.at_ + (needN ((recB it)).length : Nat)) (G.nx + 1))) ∨ (er = 8 ∧ rows' = rows ∧ next' = next ∧ S'.down = true ∧ ∀ ks, DI (crashR S' ks).secs G.s bs G.at_ G.nx)) := by
  refine enter Tryz.func13 rfl (N := 18) rfl rfl ?_
  simp only [zA, zB, zC, zD, zE, Nat.reduceAdd]
  have hle := Imm.le.refl I; refine zR <| ze rfl (runs_box rfl hst) ?_; clear hst; rintro _ w ⟨b3, rfl, hst⟩; refine zS rfl rfl <| zN <| z1 rfl (runs_loadN (vs := (itC (it) vh)) ag40 ti40 rfl hst (k := 0) rfl rfl rfl) ?_; refine zK rfl call29 rfl rfl (putrec_spec hst.drop1 hv hok) ?_; clear hst; rintro e w ⟨J9, v9, hJ9, rfl, hst, hv9⟩; rw [ho] at hv9 ⊢; rw [if_pos rfl] at hv9; replace hdt := hdt.mono hJ9; replace hv := hv.mono hJ9; replace hle := hle.trans hJ9; refine ⟨_, rfl, ?_⟩; refine zm rfl rfl <| zx rfl rfl rfl <| zx rfl rfl rfl <| zS rfl rfl <| zS rfl rfl <| zM <| zk <| zR <| zm rfl rfl <| z1 rfl (runs_neI rfl rfl) ?_; refine zM ?_; refine zb rfl (fun hc => absurd hc (by decide)) (fun hc => ?_); refine zj <| za <| zR <| zm rfl rfl <| zm rfl rfl <| zK rfl call30 rfl rfl (do_any hd hst hli hdt hti hsi hcc hg hv9 hrm) ?_; clear hst; rintro e w ⟨J17, Ld2, S2, G2, rows2, next2, Lt2, er2, hJ17, rfl, hst, hd2, hdt2, hne2, hres2⟩; replace hdt := hdt.mono hJ17; replace hv := hv.mono hJ17; replace hv9 := hv9.mono hJ17; replace hle := hle.trans hJ17; refine ⟨_, rfl, ?_⟩; refine zS rfl rfl <| zM <| CW.ret <| z9 rfl rfl ?_; exact ⟨_, Ld2, S2, G2, rows2, next2, Lt2, er2, hle, rfl, hst, hd2, hdt2, hne2, hres2⟩
set_option maxRecDepth 100000 in
set_option maxHeartbeats 4000000 in
theorem sdrop_any {w0 w : World} {I : Imm} {L Ld Lt : Own} {d : Value} {S : DS} {lb bT bS : Nat} {G : LG} {bs : List (List UInt8)} {rows : List TRow} {next : Int} (hd : DiskO d S Ld) (hst : St w0 w I ((bS, Obj.cells #[.pointer (some ⟨lb, 0, none⟩), .pointer (some ⟨bT, 0, none⟩)] 71) :: (lb, Obj.cells (logV d G).toArray 92) :: (Ld ++ (Lt ++ L)))) (hli : LI S G bs) (hdt : TbO I rows next bT Lt) (hti : TbI (absT rows) next) (hsi : SI bs (absT rows) next) {c : Int} (hcc : c ≤ 10000) (hg : GB c G) {n : Int} (hn : i64ok n) (hin : (pget rows n).isSome = true) (hrm : Room (absT rows) next (encA [.txt dropS, .num n])) :
    Calls Tryz.prog 16 #[.pointer (some ⟨bS, 0, none⟩), .int .i64 n] w fun e w' => ∃ I' Ld' S' G' rows' next' Lt' er, I.le I' ∧ e = .returned (.int .i64 er) ∧ St w0 w' I' ((bS, Obj.cells #[.pointer (some ⟨lb, 0, none⟩), .pointer (some ⟨bT, 0, none⟩)] 71) :: (lb, Obj.cells (logV d G').toArray 92) :: (Ld' ++ (Lt' ++ L))) ∧ DiskO d S' Ld' ∧ TbO I' rows' next' bT Lt' ∧ (S.left = -1 → er ≠ 8) ∧ ((er = 0 ∧ (absT rows', next') = apS (absT rows, next) (encA [.txt dropS, .num n]) ∧ (∃ bs', LI S' G' bs' ∧ SI bs' (absT rows') next') ∧ GB (c + 1) G' ∧ (S.left = -1 → S'.left = -1) ∧ ((needN ((encA [.txt dropS, .num n])).length : Nat) ≤ roomR G → G' = G.to (G.at_ + (needN ((encA [.txt dropS, .num n])).length : Nat)) (G.nx + 1))) ∨ (er = 8 ∧ rows' = rows ∧ next' = next ∧ S'.down = true ∧ ∀ ks, DI (crashR S' ks).secs G.s bs G.at_ G.nx)) := by
  refine enter Tryz.func16 rfl (N := 31) rfl rfl ?_
  simp only [zA, zB, zC, zD, zE, Nat.reduceAdd]
  have hle := Imm.le.refl I; refine zR <| zS rfl rfl <| zM <| zk <| zR <| zm rfl rfl <| z1 rfl (runs_nilCheck rfl) <| zp rfl rfl U71 rfl ti67 rfl <| zl 0 rfl sc67 rfl hst rfl rfl <| zm rfl rfl ?_; refine zK rfl call33 rfl rfl (get_spec hdt (hst.perm permS2) n) ?_; clear hst; rintro e w ⟨it, v15, Lv15, rfl, hst, hv15, _, _, _⟩; rw [hin]; replace hst := hst.dropF.perm permS2.symm; refine ⟨_, rfl, ?_⟩; refine zm rfl rfl <| zx rfl rfl rfl <| zx rfl rfl rfl <| ze rfl (runs_alloc ti40 hst) ?_; clear hst; rintro _ w ⟨b5, rfl, hst⟩; refine z0 (runs_storeW ti40 rfl rfl hst (k := 0) rfl rfl rfl (NoFz.zero _) (it_one it hv15)) ?_; clear hst; rintro w hst; (try simp only [sZ, sS] at hst); refine zS rfl rfl ?_; replace hst := hst.drop1; refine zN <| zm rfl rfl <| z1 rfl (runs_not rfl) <| zM <| zb rfl (fun hc => absurd hc (by decide)) (fun hc => ?_); refine zj <| za <| zR <| zm rfl rfl <| zK rfl call34 rfl rfl (droprec_spec hst hn) ?_; clear hst; rintro e w ⟨J22, v22, hJ22, rfl, hst, hv22⟩; replace hdt := hdt.mono hJ22; replace hle := hle.trans hJ22; refine ⟨_, rfl, ?_⟩; refine zm rfl rfl <| zx rfl rfl rfl <| zx rfl rfl rfl <| zS rfl rfl <| zS rfl rfl <| zM <| zk <| zR <| zm rfl rfl <| z1 rfl (runs_neI rfl rfl) ?_; refine zM ?_; refine zb rfl (fun hc => absurd hc (by decide)) (fun hc => ?_); refine zj <| za <| zR <| zm rfl rfl <| zm rfl rfl <| zK rfl call30 rfl rfl (do_any hd hst hli hdt hti hsi hcc hg hv22 hrm) ?_; rintro e w ⟨J30, Ld2, S2, G2, rows2, next2, Lt2, er2, hJ30, rfl, hstn, hd2, hdt2, hne2, hres2⟩; clear hst; have hst := hstn; clear hstn; replace hdt := hdt.mono hJ30; replace hv22 := hv22.mono hJ30; replace hle := hle.trans hJ30; refine ⟨_, rfl, ?_⟩; refine zS rfl rfl <| zM <| CW.ret <| z9 rfl rfl ?_; exact ⟨_, Ld2, S2, G2, rows2, next2, Lt2, er2, hle, rfl, hst, hd2, hdt2, hne2, hres2⟩
set_option maxRecDepth 100000 in
set_option maxHeartbeats 1000000 in
theorem sdrop_none {w0 w : World} {I : Imm} {L Lt : Own} {lb bT bS : Nat} {rows : List TRow} {next : Int} (hdt : TbO I rows next bT Lt) (hst : St w0 w I ((bS, Obj.cells #[.pointer (some ⟨lb, 0, none⟩), .pointer (some ⟨bT, 0, none⟩)] 71) :: (Lt ++ L))) {n : Int} (hin : (pget rows n).isSome = false) :
    Calls Tryz.prog 16 #[.pointer (some ⟨bS, 0, none⟩), .int .i64 n] w fun e w' => e = .returned (.int .i64 3) ∧ St w0 w' I ((bS, Obj.cells #[.pointer (some ⟨lb, 0, none⟩), .pointer (some ⟨bT, 0, none⟩)] 71) :: (Lt ++ L)) := by
  refine enter Tryz.func16 rfl (N := 31) rfl rfl ?_
  simp only [zA, zB, zC, zD, zE, Nat.reduceAdd]
  have hle := Imm.le.refl I; refine zR <| zS rfl rfl <| zM <| zk <| zR <| zm rfl rfl <| z1 rfl (runs_nilCheck rfl) <| zp rfl rfl U71 rfl ti67 rfl <| zl 0 rfl sc67 rfl hst rfl rfl <| zm rfl rfl ?_; refine zK rfl call33 rfl rfl (get_spec hdt (hst.perm (List.perm_middle (l₁ := Lt)).symm) n) ?_; clear hst; rintro e w ⟨it, v15, Lv15, rfl, hst, hv15, _, _, _⟩; rw [hin]; replace hst := hst.dropF.perm (List.perm_middle (l₁ := Lt)); refine ⟨_, rfl, ?_⟩; refine zm rfl rfl <| zx rfl rfl rfl <| zx rfl rfl rfl <| ze rfl (runs_alloc ti40 hst) ?_; clear hst; rintro _ w ⟨b5, rfl, hst⟩; refine z0 (runs_storeW ti40 rfl rfl hst (k := 0) rfl rfl rfl (NoFz.zero _) (it_one it hv15)) ?_; clear hst; rintro w hst; (try simp only [sZ, sS] at hst); refine zS rfl rfl ?_; replace hst := hst.drop1; refine zN <| zm rfl rfl <| z1 rfl (runs_not rfl) <| zM <| zb rfl (fun hc => ?_) (fun hc => absurd hc (by decide)); refine zR <| zS rfl rfl <| zM <| CW.ret <| zr <| z9 rfl rfl ?_; exact ⟨rfl, hst⟩
set_option maxRecDepth 100000 in
set_option maxHeartbeats 1000000 in
theorem snext_spec {w0 w : World} {I : Imm} {L Lt : Own} {lb bT bS : Nat} {rows : List TRow} {next : Int} (hdt : TbO I rows next bT Lt) (hst : St w0 w I ((bS, Obj.cells #[.pointer (some ⟨lb, 0, none⟩), .pointer (some ⟨bT, 0, none⟩)] 71) :: (Lt ++ L))) :
    Calls Tryz.prog 14 #[.pointer (some ⟨bS, 0, none⟩)] w fun e w' => e = .returned (.int .i64 next) ∧ St w0 w' I ((bS, Obj.cells #[.pointer (some ⟨lb, 0, none⟩), .pointer (some ⟨bT, 0, none⟩)] 71) :: (Lt ++ L)) := by
  refine enter Tryz.func14 rfl (N := 8) rfl rfl ?_
  simp only [zA, zB, zC, zD, zE, Nat.reduceAdd]
  have hle := Imm.le.refl I; refine zR <| zS rfl rfl <| zN <| zm rfl rfl <| z1 rfl (runs_nilCheck rfl) <| zp rfl rfl U71 rfl ti67 rfl <| zl 0 rfl sc67 rfl hst rfl rfl <| zK rfl call31 rfl rfl (next_spec hdt (hst.perm (List.perm_middle (l₁ := Lt)).symm)) ?_; clear hst; rintro e w ⟨rfl, hst⟩; refine ⟨_, rfl, ?_⟩; refine zS rfl rfl <| zM <| CW.ret <| z9 rfl rfl ?_; exact ⟨rfl, hst.perm (List.perm_middle (l₁ := Lt))⟩
set_option maxRecDepth 100000 in
set_option maxHeartbeats 1000000 in
theorem sids_spec {w0 w : World} {I : Imm} {L Lt : Own} {lb bT bS : Nat} {rows : List TRow} {next : Int} (hdt : TbO I rows next bT Lt) (hst : St w0 w I ((bS, Obj.cells #[.pointer (some ⟨lb, 0, none⟩), .pointer (some ⟨bT, 0, none⟩)] 71) :: (Lt ++ L))) (hz : rows.length ≤ 1000000) :
    Calls Tryz.prog 15 #[.pointer (some ⟨bS, 0, none⟩)] w fun e w' => ∃ I' v, I.le I' ∧ e = .returned v ∧ St w0 w' I' ((bS, Obj.cells #[.pointer (some ⟨lb, 0, none⟩), .pointer (some ⟨bT, 0, none⟩)] 71) :: (Lt ++ L)) ∧ RdI I' v (keysUp rows) := by
  refine enter Tryz.func15 rfl (N := 8) rfl rfl ?_
  simp only [zA, zB, zC, zD, zE, Nat.reduceAdd]
  have hle := Imm.le.refl I; refine zR <| zS rfl rfl <| zN <| zm rfl rfl <| z1 rfl (runs_nilCheck rfl) <| zp rfl rfl U71 rfl ti67 rfl <| zl 0 rfl sc67 rfl hst rfl rfl <| zK rfl call32 rfl rfl (ids_spec hdt (hst.perm (List.perm_middle (l₁ := Lt)).symm) hz) ?_; clear hst; rintro e w ⟨J7, v7, hJ7, rfl, hst, hv7⟩; replace hle := hle.trans hJ7; refine ⟨_, rfl, ?_⟩; refine zS rfl rfl <| zM <| CW.ret <| z9 rfl rfl ?_; exact ⟨_, v7, hle, rfl, hst.perm (List.perm_middle (l₁ := Lt)), hv7⟩
set_option maxRecDepth 100000 in
set_option maxHeartbeats 1000000 in
theorem sget_spec {w0 w : World} {I : Imm} {L Lt : Own} {lb bT bS : Nat} {rows : List TRow} {next : Int} (hdt : TbO I rows next bT Lt) (hst : St w0 w I ((bS, Obj.cells #[.pointer (some ⟨lb, 0, none⟩), .pointer (some ⟨bT, 0, none⟩)] 71) :: (Lt ++ L))) (id : Int) :
    Calls Tryz.prog 24 #[.pointer (some ⟨bS, 0, none⟩), .int .i64 id] w fun e w' => ∃ (it : It) (v' : Value) (Lv' : Own), e = .returned (.tuple #[itv it v', .bool (pget rows id).isSome]) ∧ St w0 w' I (Lv' ++ ((bS, Obj.cells #[.pointer (some ⟨lb, 0, none⟩), .pointer (some ⟨bT, 0, none⟩)] 71) :: (Lt ++ L))) ∧ v'.oneCell' = true ∧ Grow 54 2 v' (it.heads).length ((it.heads).flatMap hrow) Lv' ∧ it.heads.length ≤ 100000000 ∧ ((pget rows id).map Prod.fst).getD zeroIt = it := by
  refine enter Tryz.func24 rfl (N := 14) rfl rfl ?_
  simp only [zA, zB, zC, zD, zE, Nat.reduceAdd]
  have hle := Imm.le.refl I; refine zR <| ze rfl (runs_alloc ti40 hst) ?_; clear hst; rintro _ w ⟨b4, rfl, hst⟩; refine zS rfl rfl <| zN <| zm rfl rfl <| z1 rfl (runs_nilCheck rfl) <| zp rfl rfl U71 rfl ti67 rfl <| zl 1 rfl sc67 rfl hst rfl rfl <| zm rfl rfl <| zK rfl call33 rfl rfl (get_spec hdt (hst.perm (perm_two2 _ _ Lt L)) id) ?_; clear hst; rintro e w ⟨it, v11, Lv11, rfl, hst, hv11, hg11, hl11, he11⟩; replace hst := (hst.perm (List.Perm.append_left Lv11 (perm_two2 _ _ Lt L).symm)).perm List.perm_middle; refine ⟨_, rfl, ?_⟩; refine zx rfl rfl rfl <| zx rfl rfl rfl <| z0 (runs_storeW ti40 rfl rfl hst (k := 0) rfl rfl rfl (NoFz.zero _) (it_one it hv11)) ?_; clear hst; rintro w hst; (try simp only [sZ, sS] at hst); refine zS rfl rfl <| zM <| CW.ret <| AQ.retL (rs := [.cell 4 40, .tmp 5]) (vs := [_, _]) rfl ⟨⟨_, rfl, hst.loadN (vs := [_, _, _, _, _, _, _, _, _, _, _, _, _, _, _, _, _, _, _, _, _, _, _, _, _]) (k := 0) ag40 ti40 rfl rfl rfl⟩, rfl, trivial⟩ (by simp) ?_; exact ⟨it, v11, Lv11, rfl, hst.drop1, hv11, hg11, hl11, he11⟩
set_option maxRecDepth 100000 in
set_option maxHeartbeats 1000000 in
theorem sformat_up {w0 w : World} {I : Imm} {L Ld : Own} {d : Value} {S : DS} (hd : DiskO d S Ld) (hst : St w0 w I (Ld ++ L)) (hu : Up S) (hl : S.secs.length = 514) (hpn : S.pend.length ≤ 600000) :
    Calls Tryz.prog 9 #[d] w fun e w' => ∃ I' Ld' S', Imm.le I I' ∧ e = .returned (.int .i64 0) ∧ St w0 w' I' (Ld' ++ L) ∧ DiskO d S' Ld' ∧ Up S' ∧ S'.pend = [] ∧ DI S'.secs slot1 [] 2 1 := by
  refine enter Tryz.func9 rfl (N := 5) rfl rfl ?_
  simp only [zA, zB, zC, zD, zE, Nat.reduceAdd]
  have hle := Imm.le.refl I; refine zR <| zS rfl rfl <| zN <| zm rfl rfl <| zK rfl call26 rfl rfl (format_up hd hst hu hl hpn) ?_; clear hst; rintro e w ⟨J4, Ld1, S1, hJ4, rfl, hst, hd1, hu1, hp1, hdi1⟩; replace hle := hle.trans hJ4; refine ⟨_, rfl, ?_⟩; refine zS rfl rfl <| zM <| CW.ret <| z9 rfl rfl ?_; exact ⟨_, Ld1, S1, hle, rfl, hst, hd1, hu1, hp1, hdi1⟩
end Go.Proofs.YtadgbifmiooikaaGreatX
namespace Go.Proofs.YtadgbifmiooikaaGreatX
set_option linter.unusedVariables false
set_option linter.unusedSimpArgs false
open Go Go.RowKit
def hsSz (hs : List HRow) : Nat := (hs.map fun h => 4 + h.1.size + h.2.size).sum
def itSz (it : It) : Nat := 132 + (it.name.size + it.method.size + it.url.size + it.body.size + it.page.size + it.csp.size + it.nurl.size + it.nmethod.size + it.nbody.size + it.got.size + it.tag.size) + hsSz it.heads
theorem enc1_txt (b : ByteArray) : (enc1 (.txt b)).length = 2 + b.size := by
  show (115 :: u8 b.size :: b.toList).length = _
  rw [List.length_cons, List.length_cons, ← size_toList]; omega
theorem enc1_num (n : Int) : (enc1 (.num n)).length = 9 := by show (105 :: be8 n).length = 9; rw [List.length_cons, be8_length]
theorem enc1_flg (t : Bool) : (enc1 (.flg t)).length = 1 := rfl
theorem encA_app (a b : List AV) : encA (a ++ b) = encA a ++ encA b := List.flatMap_append
theorem encA_cons (a : AV) (b : List AV) : (encA (a :: b)).length = (enc1 a).length + (encA b).length := by unfold encA; rw [List.flatMap_cons, List.length_append]
theorem encA_nil : (encA []).length = 0 := rfl
theorem encH_len (hs : List HRow) : (encA (hAV hs)).length = hsSz hs := by
  unfold hAV hsSz
  induction hs with
  | nil => rfl
  | cons h t ih =>
    rw [List.flatMap_cons, encA_app, List.length_append, ih, List.map_cons, List.sum_cons]; rw [encA_cons, encA_cons, encA_nil, enc1_txt, enc1_txt]; omega
theorem encIt_len (it : It) : (encA (itAV it)).length = itSz it := by
  unfold itAV; rw [encA_app, encA_app, List.length_append, List.length_append, encH_len]; unfold headAV tailAV itSz
  simp only [encA_cons, encA_nil, enc1_txt, enc1_num, enc1_flg]
  omega
theorem ck_sum (b : List UInt8) : ((List.range (ckCnt b.length)).flatMap (ckL b)).length = b.length := by
  rw [ck_join b _ (Nat.le_refl _), List.length_take]; unfold ckCnt; omega
theorem recB_exact (it : It) : (recB it).length = 5 + 2 * ckCnt (itSz it) + itSz it := by
  unfold recB
  have h1 : ∀ (b : List UInt8) (l : List Nat), (encA (l.map fun k => .txt (strOf (ckL b k)))).length = 2 * l.length + (l.flatMap (ckL b)).length := by
    intro b l
    induction l with
    | nil => rfl
    | cons k t ih =>
      rw [List.map_cons, encA_cons, ih, enc1_txt, strOf_size, List.flatMap_cons, List.length_append, List.length_cons]; omega
  unfold recAV; rw [encA_cons, enc1_txt, h1, ck_sum, List.length_range, encIt_len]; have : putS.size = 3 := rfl; omega
theorem rec_need {it : It} {z : Nat} (h : itSz it ≤ z) : needN (recB it).length ≤ (z + 2 * ((z + 199) / 200) + 27) / 19 := by
  rw [recB_exact]; unfold needN ckCnt; omega
theorem next_need (n : Int) : needN (encA [.txt nextS, .num n]).length ≤ 1 := by
  have h : (encA [.txt nextS, .num n]).length = 15 := by
    rw [encA_cons, encA_cons, encA_nil, enc1_txt, enc1_num]
    rfl
  rw [h]
  decide
theorem drop_need (n : Int) : needN (encA [.txt dropS, .num n]).length ≤ 1 := by
  have h : (encA [.txt dropS, .num n]).length = 15 := by
    rw [encA_cons, encA_cons, encA_nil, enc1_txt, enc1_num]
    rfl
  rw [h]
  decide
theorem up_eqS : ∀ {a b : List Int}, a.Pairwise (· < ·) → b.Pairwise (· < ·) → (∀ x, x ∈ a ↔ x ∈ b) → a = b
  | [], [], _, _, _ => rfl
  | [], y :: t, _, _, h => absurd ((h y).2 (List.mem_cons_self ..)) (by simp)
  | x :: s, [], _, _, h => absurd ((h x).1 (List.mem_cons_self ..)) (by simp)
  | x :: s, y :: t, ha, hb, h => by
    rw [List.pairwise_cons] at ha hb
    have exy : x = y := by
      rcases List.mem_cons.1 ((h x).1 (List.mem_cons_self ..)) with e | h1
      · exact e
      · rcases List.mem_cons.1 ((h y).2 (List.mem_cons_self ..)) with e | h2
        · exact e.symm
        · have := hb.1 x h1; have := ha.1 y h2; omega
    subst exy; rw [up_eqS ha.2 hb.2 (fun z => ⟨fun hz => ?_, fun hz => ?_⟩)]
    · rcases List.mem_cons.1 ((h z).1 (List.mem_cons_of_mem _ hz)) with e | h1
      · have := ha.1 z hz; omega
      · exact h1
    · rcases List.mem_cons.1 ((h z).2 (List.mem_cons_of_mem _ hz)) with e | h1
      · have := hb.1 z hz; omega
      · exact h1
theorem SEq.keys {s t : AT} (h : SEq s t) (hs : Nd s) (ht : Nd t) : keysUp s.1 = keysUp t.1 := by
  refine up_eqS (keysUp_lt hs) (keysUp_lt ht) fun k => ?_
  rw [keysUp_mem, keysUp_mem]
  constructor <;> intro hk
  · refine Classical.byContradiction fun hn => ?_
    have := pget_none.2 hn; rw [← h.2 k] at this; exact absurd hk (pget_none.1 this)
  · refine Classical.byContradiction fun hn => ?_
    have := pget_none.2 hn; rw [h.2 k] at this; exact absurd hk (pget_none.1 this)
theorem SEq.len {s t : AT} (h : SEq s t) (hs : Nd s) (ht : Nd t) : s.1.length = t.1.length := by
  have := congrArg List.length (h.keys hs ht)
  rwa [keysUp_len, keysUp_len] at this
theorem SEq.mem {s t : AT} (h : SEq s t) (hs : Nd s) {r : Int × It} (hr : r ∈ s.1) : r ∈ t.1 := pget_mem (by rw [← h.2]; exact pget_some hs (k := r.1) (u := r.2) hr)
theorem Room.mk2 {A : List (Int × It)} {next : Int} {b : List UInt8} (h : TbI A next) (hb : RecOk b) (hbn : needN b.length ≤ 255) (hr : A.length ≤ 1000) (h2 : TbI (apS (A, next) b).1 (apS (A, next) b).2) {m : Nat} (hm : m ≤ 255) (hz : ∀ r ∈ (apS (A, next) b).1, needN (recB r.2).length ≤ m) (hc : 1 + (apS (A, next) b).1.length * m ≤ 256) (hl : (apS (A, next) b).1.length ≤ 999) : Room A next b := by
  obtain ⟨e, hn⟩ := turn_seq h b; have hl2 := e.len hn (by exact h2.nd)
  have hz2 : ∀ r ∈ (turnA A next b).1, needN (recB r.2).length ≤ m := fun r hr => hz r (e.mem hn hr)
  refine ⟨hb, h2, ?_, ?_, by rw [recsA_len, hl2]; omega, hr, hbn⟩
  · have := needS_map (next := (turnA A next b).2) (next_need _) hz2 hn; rw [hl2] at this; omega
  · intro x hx; unfold recsA at hx
    rcases List.mem_cons.1 hx with rfl | hx
    · exact Nat.le_trans (next_need _) (by decide)
    · obtain ⟨k, hk, rfl⟩ := List.mem_map.1 hx; have hk2 := (keysUp_mem _ k).1 hk
      obtain ⟨it, hit⟩ : ∃ it, pget (turnA A next b).1 k = some it := by
        cases h3 : pget (turnA A next b).1 k with
        | none => exact absurd hk2 (pget_none.1 h3)
        | some it => exact ⟨it, rfl⟩
      have h4 := hz2 _ (pget_mem hit)
      have h5 : itA (turnA A next b).1 k = it := by unfold itA; rw [hit]; rfl
      rw [h5]; exact Nat.le_trans h4 hm
theorem Room.put {A : List (Int × It)} {next : Int} (h : TbI A next) {it : It} (hok : ItOk it) (ho : encOk (itAV it) = true) (h1 : 1 ≤ it.id) (h2 : it.id < 999999) (h3 : it.heads.length ≤ 1000) {m : Nat} (hm : m ≤ 255) (hz : ∀ r ∈ A, needN (recB r.2).length ≤ m) (hi : needN (recB it).length ≤ m) (hc : 1 + (pput A it.id it).length * m ≤ 256) (hl : A.length ≤ 900) : Room A next (recB it) := by
  obtain ⟨p1, p2⟩ := put_rec hok ho
  have hb : (recB it).length ≤ 1000000 := by
    have := (need_room (recB it).length).1; omega
  have hl2 := pput_len A it.id it; refine Room.mk2 h ⟨p1, hb⟩ (Nat.le_trans hi hm) (by omega) ?_ hm ?_ ?_ ?_
  · rw [p2]; exact (h.put hok ho h1 h2 h3).1
  · rw [p2]; intro r hr
    rcases pput_mem hr with rfl | hr
    · exact hi
    · exact hz r hr
  · rw [p2]; exact hc
  · rw [p2]; dsimp only; omega
theorem Room.drop {A : List (Int × It)} {next : Int} (h : TbI A next) {n : Int} (hn : i64ok n) {m : Nat} (hm : m ≤ 255) (hz : ∀ r ∈ A, needN (recB r.2).length ≤ m) (hc : 1 + A.length * m ≤ 256) (hl : A.length ≤ 900) : Room A next (encA [.txt dropS, .num n]) := by
  obtain ⟨p1, p2⟩ := drop_rec hn; have hl2 := pdel_len A n; refine Room.mk2 h p1 (Nat.le_trans (drop_need n) (by decide)) (by omega) ?_ hm ?_ ?_ ?_
  · rw [p2]; exact h.del n
  · rw [p2]; exact fun r hr => hz r (pdel_mem hr)
  · rw [p2]; dsimp only; have := Nat.mul_le_mul_right m hl2; omega
  · rw [p2]; dsimp only; omega
open Go.Proofs
structure Sto (I : Imm) (S : DS) (G : LG) (bs : List (List UInt8)) (rows : List TRow) (next : Int) (bT : Nat) (Lt : Own) (c : Int) : Prop where
  li : LI S G bs
  up : Up S
  tb : TbO I rows next bT Lt
  ti : TbI (absT rows) next
  si : SI bs (absT rows) next
  gb : GB c G
theorem Sto.mono {I I' : Imm} {S : DS} {G : LG} {bs : List (List UInt8)} {rows : List TRow} {next : Int} {bT : Nat} {Lt : Own} {c : Int} (h : Sto I S G bs rows next bT Lt c) (hI : I.le I') : Sto I' S G bs rows next bT Lt c := ⟨h.li, h.up, h.tb.mono hI, h.ti, h.si, h.gb⟩
theorem permT {α : Type} {a b : α} {X Y Q : List α} : (a :: b :: (X ++ (Y ++ Q))).Perm (a :: (Y ++ (b :: (X ++ Q)))) := List.Perm.cons _ permS1
theorem stateT {w0 w : World} {I : Imm} {a b : Nat × Obj} {X Y Q : Own} (h : St w0 w I (a :: b :: (X ++ (Y ++ Q)))) : St w0 w I (a :: (Y ++ (b :: (X ++ Q)))) := h.perm permT
theorem stateB {w0 w : World} {I : Imm} {a b : Nat × Obj} {X Y Q : Own} (h : St w0 w I (a :: (Y ++ (b :: (X ++ Q))))) : St w0 w I (a :: b :: (X ++ (Y ++ Q))) := h.perm permT.symm
theorem sput_up {w0 w : World} {I : Imm} {L Ld Lt : Own} {d : Value} {S : DS} {lb bT bS : Nat} {G : LG} {bs : List (List UInt8)} {rows : List TRow} {next c : Int} (hd : DiskO d S Ld) (hst : St w0 w I ((bS, Obj.cells #[.pointer (some ⟨lb, 0, none⟩), .pointer (some ⟨bT, 0, none⟩)] 71) :: (lb, Obj.cells (logV d G).toArray 92) :: (Ld ++ (Lt ++ L)))) (h : Sto I S G bs rows next bT Lt c) (hcc : c ≤ 10000) {it : It} {vh : Value} (hv : RdH I vh it.heads) (hok : ItOk it) (ho : encOk (itAV it) = true) (hrm : Room (absT rows) next (recB it)) :
    Calls Tryz.prog 13 #[.pointer (some ⟨bS, 0, none⟩), itv it vh] w fun e w' => ∃ I' Ld' S' G' bs' rows' next' Lt', I.le I' ∧ e = .returned (.int .i64 0) ∧ St w0 w' I' ((bS, Obj.cells #[.pointer (some ⟨lb, 0, none⟩), .pointer (some ⟨bT, 0, none⟩)] 71) :: (lb, Obj.cells (logV d G').toArray 92) :: (Ld' ++ (Lt' ++ L))) ∧ DiskO d S' Ld' ∧ Sto I' S' G' bs' rows' next' bT Lt' (c + 1) ∧ absT rows' = pput (absT rows) it.id it ∧ next' = nextR next it.id ∧ ((needN (recB it).length : Nat) ≤ roomR G → G' = G.to (G.at_ + (needN (recB it).length : Nat)) (G.nx + 1)) := by
  refine (sput_any hd hst h.li h.tb h.ti h.si hcc h.gb hv hok ho hrm).mono ?_; rintro e w' ⟨I', Ld', S', G', rows', next', Lt', er, h1, rfl, h2, h3, h4, h5, h6⟩; obtain ⟨rfl, e1, ⟨bs', e2, e3⟩, e4, e5, e6⟩ := h6.resolve_right (fun hh => h5 h.up.2 hh.1); rw [(put_rec hok ho).2] at e1; have f1 : absT rows' = pput (absT rows) it.id it := congrArg Prod.fst e1; have f2 : next' = nextR next it.id := congrArg Prod.snd e1
  have ht : TbI (absT rows') next' := by
    have := hrm.t; rw [(put_rec hok ho).2] at this; rw [f1, f2]; exact this
  exact ⟨I', Ld', S', G', bs', rows', next', Lt', h1, rfl, h2, h3, ⟨e2, ⟨e2.on, e5 h.up.2⟩, h4, ht, e3, e4⟩, f1, f2, e6⟩
theorem sopen_sto {w0 w : World} {I : Imm} {L Ld : Own} {d : Value} {S : DS} {s : Slot} {bs : List (List UInt8)} {a nx : Int} (hd : DiskO d S Ld) (hst : St w0 w I (Ld ++ L)) (hu : Up S) (hp : S.pend = []) (hdi : DI S.secs s bs a nx) {A : List (Int × It)} {next : Int} (hsi : SI bs A next) (hti : TbI A next) {c : Int} (hcc : c ≤ 10000) (hs : s.n ≤ c ∧ s.e ≤ c ∧ nx ≤ 1001 * c) :
    Calls Tryz.prog 10 #[d] w fun e w' => ∃ I' Ld' lb bT bS rows S' Lt, I.le I' ∧ e = .returned (.tuple #[.pointer (some ⟨bS, 0, none⟩), .int .i64 0]) ∧ St w0 w' I' ((bS, Obj.cells #[.pointer (some ⟨lb, 0, none⟩), .pointer (some ⟨bT, 0, none⟩)] 71) :: (lb, Obj.cells (logV d ⟨s.up, a, nx, 0⟩).toArray 92) :: (Ld' ++ (Lt ++ L))) ∧ DiskO d S' Ld' ∧ Sto I' S' ⟨s.up, a, nx, 0⟩ bs rows next bT Lt (c + 1) ∧ SEq (absT rows, next) (A, next) := by
  refine (sopen_up hd hst hu hp hdi (by omega) hsi hti (by omega)).mono ?_; rintro e w' ⟨I', Ld', lb, bT, bS, rows, S', Lt, h1, rfl, h2, h3, h4, h5, h6, h7, h8, h9⟩; refine ⟨I', Ld', lb, bT, bS, rows, S', Lt, h1, rfl, h2, h3, ⟨h4, h5, h6, h8, h9, ?_⟩, h7⟩; unfold GB Slot.up; dsimp only; omega
theorem seq_nil {A : List (Int × It)} {n : Int} (h : SEq (A, n) ([], 1)) (hn : (A.map Prod.fst).Nodup) : A = [] := List.eq_nil_of_length_eq_zero (h.len (s := (A, n)) hn List.nodup_nil)
def itQ (id til : Int) (name tag : ByteArray) (hs : List HRow) : It := { zeroIt with id := id, til := til, name := name, tag := tag, heads := hs }
theorem itQ_ok {id til : Int} {name tag : ByteArray} {hs : List HRow} (h1 : i64ok id) (h2 : i64ok til) (h3 : hs.length ≤ 1000) : ItOk (itQ id til name tag hs) := by
  have z : i64ok 0 := by unfold i64ok; decide
  exact ⟨h1, z, z, z, z, z, z, z, h2, z, z, by show hs.length ≤ 100000000; omega⟩
theorem itQ_enc {id til : Int} {name tag : ByteArray} {hs : List HRow} (h3 : ∀ r ∈ hs, r.1.size ≤ 255 ∧ r.2.size ≤ 255) : encOk (itAV (itQ id til name tag hs)) = (decide (name.size ≤ 255) && decide (tag.size ≤ 255)) := by
  have hh : (hAV hs).all enc1Ok = true := by
    rw [List.all_eq_true]; intro a ha; unfold hAV at ha; obtain ⟨r, hr, h2⟩ := List.mem_flatMap.1 ha; have h3 := h3 r hr
    simp only [List.mem_cons, List.not_mem_nil, or_false] at h2
    rcases h2 with rfl | rfl <;> (simp only [enc1Ok, decide_eq_true_eq]; omega)
  unfold encOk itAV headAV tailAV; rw [List.all_append, List.all_append]
  show (_ && (hAV hs).all enc1Ok && _) = _
  rw [hh]
  simp [enc1Ok, itQ, zeroIt]
theorem itQ_sz (id til : Int) (name tag : ByteArray) (hs : List HRow) : itSz (itQ id til name tag hs) = 132 + (name.size + tag.size) + hsSz hs := by
  unfold itSz itQ zeroIt; have : ByteArray.empty.size = 0 := rfl; dsimp only; omega
theorem itQ_need {id til : Int} {name tag : ByteArray} {hs : List HRow} (h : name.size + tag.size + hsSz hs ≤ 20) : needN (recB (itQ id til name tag hs)).length ≤ 9 := Nat.le_trans (rec_need (z := 152) (by rw [itQ_sz]; omega)) (by decide)
set_option maxRecDepth 100000 in
set_option maxHeartbeats 4000000 in
theorem wakes20_spec {w0 w : World} {I : Imm} {L : Own} (hst : St w0 w I L) :
    Calls Tryz.prog 19 #[] w fun e w' => e = .returned (.bool true) ∧ ∃ I', I.le I' ∧ St w0 w' I' L := by
  refine enter Tryz.func19 rfl (N := 47) rfl rfl ?_
  simp only [zA, zB, zC, zD, zE, Nat.reduceAdd]
  have hle := Imm.le.refl I; refine zR <| zS rfl rfl <| zN <| zK rfl call8 rfl rfl (new_spec hst 514) ?_; clear hst; rintro e w ⟨_, Ld, rfl, _, hst, hd, a1, rfl⟩; rw [newR_L] at hd; refine ⟨_, rfl, ?_⟩; refine zS rfl rfl <| zM <| zk <| zR <| zm rfl rfl <| z1 rfl (runs_eq_nilptr Tryz.underlying23 rfl) <| zM <| zb rfl (fun hc => absurd hc (by rw [(show (Option.isNone (some a1)) = false from rfl)]; decide)) (fun hc => ?_); refine zj <| za <| zR <| zm rfl rfl <| zK rfl call10 rfl rfl (sopen_none hd hst) ?_; clear hst; rintro e w ⟨J10, Ld1, hJ10, rfl, hst, hd1⟩; replace hle := hle.trans hJ10; refine ⟨_, rfl, ?_⟩; refine zm rfl rfl <| zx rfl rfl rfl <| zx rfl rfl rfl <| zS rfl rfl <| zS rfl rfl <| zM <| zk <| zR <| zm rfl rfl <| z1 rfl (runs_neI rfl rfl) ?_; refine zm rfl rfl ?_; have hk15 := (show decide ((3 : Int) ≠ 3) = false by decide); refine zo rfl rfl rfl rfl hk15 <| zm rfl rfl <| zo rfl rfl rfl rfl hk15 <| zK rfl call9 rfl rfl (sformat_up hd1 hst ⟨rfl, rfl⟩ (List.length_replicate ..) (Nat.zero_le _)) ?_; clear hst; rintro e w ⟨J17, Ld2, S2, hJ17, rfl, hst, hd2, hu2, hp2, hdi2⟩; replace hle := hle.trans hJ17; refine ⟨_, rfl, ?_⟩; refine zo rfl rfl rfl rfl hk15 <| z1 rfl (runs_neI rfl rfl) <| zn rfl rfl hk15 rfl <| zM <| zb rfl (fun hc => absurd hc (by decide)) (fun hc => ?_); refine zj <| za <| zR <| zm rfl rfl <| zK rfl call10 rfl rfl (sopen_sto hd2 hst hu2 hp2 hdi2 SI.nil TbI.nil (c := 5) (by decide) (by decide)) ?_; clear hst; rintro e w ⟨J22, Ld3, lb, bT, bS, rows, S3, Lt, hJ22, rfl, hst, hd3, hso, hse⟩; have hem := seq_nil hse hso.ti.nd; replace hle := hle.trans hJ22; refine ⟨_, rfl, ?_⟩; refine zm rfl rfl <| zx rfl rfl rfl <| zx rfl rfl rfl <| zS rfl rfl <| zS rfl rfl <| zN <| zm rfl rfl <| z1 rfl (runs_eqI rfl rfl) <| zm rfl rfl ?_; have hk27 := (show decide ((0 : Int) = 0) = true by decide); refine zo rfl rfl rfl rfl hk27 <| zm rfl rfl <| zo rfl rfl rfl rfl hk27 <| z1 rfl (runs_ne_nilptr Tryz.underlying27 rfl) <| zt rfl rfl hk27 rfl <| zm rfl rfl ?_; have hk31 := (show (!(Option.isNone (some (⟨bS, 0, none⟩ : Addr)))) = true from rfl); refine zo rfl rfl rfl rfl hk31 <| zm rfl rfl <| zo rfl rfl rfl rfl hk31 <| zK rfl call14 rfl rfl (snext_spec hso.tb (stateT hst)) ?_; clear hst; rintro e w ⟨rfl, hst⟩; replace hst := stateB hst; refine ⟨_, rfl, ?_⟩; refine zo rfl rfl rfl rfl hk31 <| z1 rfl (runs_eqI rfl rfl) <| zt rfl rfl hk31 rfl <| zm rfl rfl ?_; have hk36 := (show decide ((1 : Int) = 1) = true by decide); refine zo rfl rfl rfl rfl hk36 <| zm rfl rfl <| zo rfl rfl rfl rfl hk36 <| z1 rfl (runs_buildF (cells := [_, _, _, _, _, _, _, _, _, _, _, _, _, _, _, _, _, _, _, _, _, _, _, _, _]) bz40 rfl rfl rfl rfl rfl) <| zo rfl rfl rfl rfl hk36 ?_
  refine zK rfl call13 rfl rfl (sput_up hd3 hst hso (by decide) (it := itQ 1 0 ⟨#[120]⟩ .empty []) (vh := .slice none 0 0) (RdH.nil _) (itQ_ok (by unfold i64ok; decide) (by unfold i64ok; decide) (by decide)) ((itQ_enc (by simp)).trans (by decide)) (Room.put hso.ti (itQ_ok (by unfold i64ok; decide) (by unfold i64ok; decide) (by decide)) ((itQ_enc (by simp)).trans (by decide)) (by decide) (by decide) (by decide) (m := 9) (by decide) (by rw [hem]; simp) (itQ_need (by decide)) (by rw [hem]; decide) (by rw [hem]; decide))) ?_; clear hst; rintro e w ⟨J39, Ld39, S39, G39, bs39, rows39, next39, Lt39, hJ39, rfl, hst, hd39, hso39, hab39, hnx39, hto39⟩; replace hso := hso.mono hJ39; replace hle := hle.trans hJ39; refine ⟨_, rfl, ?_⟩; refine zo rfl rfl rfl rfl hk36 <| z1 rfl (runs_eqI rfl rfl) <| zt rfl rfl hk36 rfl <| zm rfl rfl ?_; have hk42 := (show decide ((0 : Int) = 0) = true by decide); refine zo rfl rfl rfl rfl hk42 <| zm rfl rfl <| zo rfl rfl rfl rfl hk42 <| zK rfl call14 rfl rfl (snext_spec hso39.tb (stateT hst)) ?_; clear hst; rintro e w ⟨rfl, hst⟩; replace hst := stateB hst; refine ⟨_, rfl, ?_⟩; refine zo rfl rfl rfl rfl hk42 <| z1 rfl (runs_eqI rfl rfl) <| zt rfl rfl hk42 rfl <| zS rfl rfl <| zM <| CW.ret <| z9 rfl rfl ?_; refine ⟨?_, _, hle, ((hst.drop1.drop1).sub (List.sublist_append_right _ _)).sub (List.sublist_append_right _ _)⟩; rw [hnx39, nextR_of (by unfold i64ok; decide)]
  rfl
theorem absT_isS {rows : List TRow} {k : Int} {it : It} (h : pget (absT rows) k = some it) : (pget rows k).isSome = true ∧ ((pget rows k).map Prod.fst).getD zeroIt = it := by
  rw [absT_get] at h
  cases hp : pget rows k with
  | none => rw [hp] at h; cases h
  | some p =>
    rw [hp] at h
    cases h
    exact ⟨rfl, rfl⟩
structure MIt (I : Imm) (oM : Obj) (mr : List TRow) : Prop where
  m : MapR kI oM (trend mr)
  nd : (mr.map Prod.fst).Nodup
  h : ∀ r ∈ mr, RdH I r.2.2 r.2.1.heads
theorem MIt.mono {I I' : Imm} {oM : Obj} {mr : List TRow} (h : MIt I oM mr) (hI : I.le I') : MIt I' oM mr := ⟨h.m, h.nd, fun r hr => (h.h r hr).mono hI⟩
theorem permX {α : Type} {a x : α} {Y Q : List α} : (x :: a :: (Y ++ Q)).Perm (a :: (Y ++ (x :: Q))) := (List.Perm.swap a x _).trans (List.Perm.cons a (List.perm_middle (l₁ := Y)).symm)
theorem permG2 {α : Type} {m x a : α} {Y Q : List α} : (m :: x :: a :: (Y ++ Q)).Perm (a :: (Y ++ (m :: x :: Q))) := (((List.Perm.cons m (List.Perm.swap a x _)).trans (List.Perm.swap a m _))).trans (List.Perm.cons a ((List.Perm.cons m (List.perm_middle (l₁ := Y)).symm).trans (List.perm_middle (l₁ := Y)).symm))
theorem stateX {w0 w : World} {I : Imm} {a x : Nat × Obj} {Y Q : Own} (h : St w0 w I (x :: a :: (Y ++ Q))) : St w0 w I (a :: (Y ++ (x :: Q))) := h.perm permX
theorem stateY {w0 w : World} {I : Imm} {a x : Nat × Obj} {Y Q : Own} (h : St w0 w I (a :: (Y ++ (x :: Q)))) : St w0 w I (x :: a :: (Y ++ Q)) := h.perm permX.symm
set_option maxRecDepth 100000 in
set_option maxHeartbeats 4000000 in
theorem same20_spec {w0 w : World} {I : Imm} {L Lt : Own} {lb bT bS bM : Nat} {oM : Obj} {rows mr : List TRow} {next : Int} (hdt : TbO I rows next bT Lt) (hm : MIt I oM mr) (hst : St w0 w I ((bM, oM) :: (bS, Obj.cells #[.pointer (some ⟨lb, 0, none⟩), .pointer (some ⟨bT, 0, none⟩)] 71) :: (Lt ++ L))) (hti : TbI (absT rows) next) (hse : ∀ k, pget (absT rows) k = pget (absT mr) k) (hz : rows.length ≤ 1000) :
    Calls Tryz.prog 23 #[.pointer (some ⟨bS, 0, none⟩), .map (some bM), .int .i64 next] w fun e w' => ∃ I', I.le I' ∧ e = .returned (.bool true) ∧ St w0 w' I' ((bM, oM) :: (bS, Obj.cells #[.pointer (some ⟨lb, 0, none⟩), .pointer (some ⟨bT, 0, none⟩)] 71) :: (Lt ++ L)) := by
  have hnm : Nd (absT mr, next) := by show ((absT mr).map Prod.fst).Nodup; rw [absT_keys]; exact hm.nd
  have hlen : rows.length = mr.length := by
    have h := SEq.len (s := (absT rows, next)) (t := (absT mr, next)) ⟨rfl, hse⟩ hti.nd hnm; unfold absT at h; rw [List.length_map, List.length_map] at h; exact h
  refine enter Tryz.func23 rfl (N := 61) rfl rfl ?_
  simp only [zA, zB, zC, zD, zE, Nat.reduceAdd]
  have hle := Imm.le.refl I; refine zR <| zS rfl rfl <| zM <| zk <| zR <| zm rfl rfl <| z1 rfl (runs_eq_nilptr Tryz.underlying27 rfl) <| zm rfl rfl ?_; have hk15 := (show (some (⟨bS, 0, none⟩ : Addr)).isNone = false from rfl); refine zo rfl rfl rfl rfl hk15 <| zm rfl rfl <| zo rfl rfl rfl rfl hk15 <| zK rfl call14 rfl rfl (snext_spec hdt (stateX hst)) ?_; clear hst; rintro e w ⟨rfl, hst⟩; replace hst := stateY hst; refine ⟨_, rfl, ?_⟩; refine zo rfl rfl rfl rfl hk15 <| zm rfl rfl <| zo rfl rfl rfl rfl hk15 <| z1 rfl (runs_neI rfl rfl) <| zn rfl rfl hk15 rfl <| zm rfl rfl ?_; have hk21 := (neSelf next); refine zo rfl rfl rfl rfl hk21 <| zm rfl rfl <| zo rfl rfl rfl rfl hk21 <| zK rfl call15 rfl rfl (sids_spec hdt (stateX hst) (by omega)) ?_; clear hst; rintro e w ⟨J23, v23, hJ23, rfl, hst, hv23⟩; replace hst := stateY hst; replace hdt := hdt.mono hJ23; replace hm := hm.mono hJ23; replace hle := hle.trans hJ23; refine ⟨_, rfl, ?_⟩; refine zo rfl rfl rfl rfl hk21 <| z1 rfl (RdL.len Tryz.underlying22 rfl hv23) <| zo rfl rfl rfl rfl hk21 <| zm rfl rfl <| zo rfl rfl rfl rfl hk21 <| z1 rfl (runs_lenM (i := 0) Tryz.underlying47 rfl hst rfl hm.m) ?_; rw [show (trend mr).length = mr.length from List.length_map _]; refine zo rfl rfl rfl rfl hk21 <| z1 rfl (runs_neI rfl rfl) <| zn rfl rfl hk21 rfl <| zM <| zb rfl (fun hc => absurd hc (by rw [keysUp_len, hlen]; simp)) (fun hc => ?_); refine zj <| za <| zk <| zR <| zm rfl rfl <| zK rfl call15 rfl rfl (sids_spec hdt (stateX hst) (by omega)) ?_; clear hst; rintro e w ⟨J30, v30, hJ30, rfl, hst, hv30⟩; replace hst := stateY hst; have hkl := keysUp_len rows; replace hdt := hdt.mono hJ30; replace hm := hm.mono hJ30; replace hv23 := hv23.mono hJ30; replace hle := hle.trans hJ30; refine ⟨_, rfl, ?_⟩; refine z1 rfl (RdL.len Tryz.underlying22 rfl hv30) <| zm rfl rfl <| zM <| CW.block <| CW.loop (Nat × Imm) (fun x w => I.le x.2 ∧ TbO x.2 rows next bT Lt ∧ MIt x.2 oM mr ∧ RdI x.2 v30 (keysUp rows) ∧ x.1 ≤ (keysUp rows).length ∧ St w0 w x.2 ((bM, oM) :: (bS, Obj.cells #[.pointer (some ⟨lb, 0, none⟩), .pointer (some ⟨bT, 0, none⟩)] 71) :: (Lt ++ L))) (fun x => [(0, .pointer (some ⟨bS, 0, none⟩)), (1, .map (some bM)), (30, v30), (31, .int .i64 ((keysUp rows).length : Nat)), (32, .int .i64 (x.1 : Int))]) (fun x => (keysUp rows).length - x.1) ⟨(0, _), ⟨hle, hdt, hm, hv30, Nat.zero_le _, hst⟩, ⟨rfl, rfl, rfl, rfl, rfl, trivial⟩⟩ ?_; clear hle hdt hm hv30 hst hv23; rintro ⟨k, J⟩ w ⟨hle, hdt, hm, hv30, hk, hstn⟩; dsimp only at hle hdt hm hv30 hk hstn ⊢; have hst := hstn; clear hstn; refine zR <| z1 rfl (runs_lss rfl rfl) <| zM <| zk <| zb rfl (fun hc33 => ?_) (fun hc33 => ?_)
  · have hcb33 := hc33; (try simp only [dY, dF] at hc33)
    have hk1 : k < (keysUp rows).length := by omega
    obtain ⟨kk, hkk⟩ : ∃ kk, (keysUp rows)[k]? = some kk := ⟨_, List.getElem?_eq_getElem hk1⟩
    have hki : iat (keysUp rows) (k : Int) = kk := by unfold iat; rw [Int.toNat_natCast, List.getD_eq_getElem?_getD, hkk]; rfl
    have hkm := (keysUp_mem rows kk).1 (List.mem_of_getElem? hkk)
    obtain ⟨⟨it, vh⟩, hit⟩ : ∃ p, pget rows kk = some p := by
      cases h : pget rows kk with
      | none => exact absurd hkm (pget_none.1 h)
      | some p => exact ⟨p, rfl⟩
    have hia : pget (absT rows) kk = some it := by rw [absT_get, hit]; rfl
    obtain ⟨hso, hge⟩ := absT_isS hia; have him := hse kk; rw [hia, absT_get] at him
    obtain ⟨vm, hmm⟩ : ∃ vm, pget mr kk = some (it, vm) := by
      cases h : pget mr kk with
      | none => rw [h] at him; cases him
      | some p => rw [h] at him; cases him; exact ⟨p.2, rfl⟩
    have hvm := hm.h _ (pget_mem hmm); obtain ⟨o1, o2⟩ := hti.ok _ (pget_mem hia); have o3 := hti.hl _ (pget_mem hia); dsimp only at hvm o1 o2 o3; refine zj <| za <| zk <| CW.block <| zR <| z1 rfl (RdL.indexAddr Tryz.underlying22 ti3 (by decide) rfl rfl hv30 (by omega)) ?_; refine z1 rfl (runs_load1 sc3 rfl (hst.cell_imm (RdI.at hv30 (by omega) (by omega)))) ?_; rw [hki]; refine zS rfl rfl <| zN <| zm rfl rfl <| zm rfl rfl <| z1 rfl (runs_lookupOk (i := 0) (keyI Tryz.underlying3) Tryz.underlying47 ti40 rfl rfl hst rfl hm.m) ?_; rw [mget_t, hmm]
    simp only [Option.map_some, Option.getD_some, Option.isSome_some]
    refine zm rfl rfl <| zx rfl rfl rfl <| zx rfl rfl rfl <| ze rfl (runs_alloc ti40 hst) ?_; clear hst; rintro _ w ⟨b9, rfl, hst⟩; refine z0 (runs_storeW ti40 rfl rfl hst (k := 0) rfl rfl rfl (NoFz.zero _) (it_one it hvm.one)) ?_; clear hst; rintro w hst; (try simp only [sZ, sS] at hst); refine zS rfl rfl ?_; replace hst := hst.perm (List.Perm.swap _ _ _); refine zN <| zm rfl rfl <| zm rfl rfl <| zK rfl call24 rfl rfl (sget_spec hdt (hst.perm (permG2 (Y := Lt))) kk) ?_; clear hst; rintro e w ⟨it2, v45, Lv45, rfl, hst, hv45, hg45, _, he45⟩; rw [hge] at he45; subst he45; rw [hso]; obtain ⟨J45, hJ45, hst45, hfz⟩ := hg45.freeze hst; clear hst; have hst := hst45.perm (permG2 (Y := Lt)).symm; clear hst45; replace hdt := hdt.mono hJ45; replace hm := hm.mono hJ45; replace hv30 := hv30.mono hJ45; replace hle := hle.trans hJ45; refine ⟨_, rfl, ?_⟩; refine zm rfl rfl <| zx rfl rfl rfl <| zx rfl rfl rfl <| ze rfl (runs_alloc ti40 hst) ?_; clear hst; rintro _ w ⟨b11, rfl, hst⟩; refine z0 (runs_storeW ti40 rfl rfl hst (k := 0) rfl rfl rfl (NoFz.zero _) (it_one it hv45)) ?_; clear hst; rintro w hst; (try simp only [sZ, sS] at hst); refine zS rfl rfl <| zN <| zm rfl rfl <| z1 rfl (runs_not rfl) <| zm rfl rfl ?_; have hk50 := (show (!true) = false from rfl); refine zo rfl rfl rfl rfl hk50 <| zm rfl rfl <| zo rfl rfl rfl rfl hk50 <| z1 rfl (runs_not rfl) <| zn rfl rfl hk50 rfl <| zm rfl rfl ?_; have hk54 := (show (!true) = false from rfl); refine zo rfl rfl rfl rfl hk54 <| z1 rfl (runs_loadN (vs := (itC (it) v45)) ag40 ti40 rfl hst (k := 0) rfl rfl rfl) ?_; refine zo rfl rfl rfl rfl hk54 <| z1 rfl (runs_loadN (vs := (itC (it) vm)) ag40 ti40 rfl hst (k := 2) rfl rfl rfl) ?_; refine zo rfl rfl rfl rfl hk54 <| zK rfl call38 rfl rfl (same17_spec hst hfz (hm.h _ (pget_mem hmm)) o1 o1 o3 o3 o2 o2) ?_; clear hst; rintro e w ⟨J57, hJ57, rfl, hst⟩; replace hdt := hdt.mono hJ57; replace hm := hm.mono hJ57; replace hv30 := hv30.mono hJ57; replace hfz := hfz.mono hJ57; replace hle := hle.trans hJ57; refine ⟨_, rfl, ?_⟩; refine zo rfl rfl rfl rfl hk54 <| z1 rfl (runs_not rfl) <| zn rfl rfl hk54 rfl <| zM <| zb rfl (fun hc => absurd hc (by simp)) (fun hc => ?_); refine zj <| zh <| za <| zg <| z1 rfl (runs_add rfl rfl (by omega)) ?_; refine zm rfl rfl <| zd ?_; exact AQ.again (x := (k, J)) (k + 1, _) ⟨hle, hdt, hm, hv30, by dsimp only; omega, (hst.drop1.perm (List.Perm.swap _ _ _)).drop1⟩ ⟨rfl, rfl, rfl, rfl, rfl, trivial⟩ (by dsimp only; omega)
  · refine CW.exit ?_; refine AQ.past_exit <| AQ.past_exit <| AQ.block_hit <| za <| zR <| zS rfl rfl <| zM <| CW.ret <| z9 rfl rfl ?_; exact ⟨_, hle, rfl, hst⟩
theorem stE2 {w0 w : World} {I : Imm} {x y a b : Nat × Obj} {X Y Q : Own} (h : St w0 w I (y :: x :: a :: b :: (X ++ (Y ++ Q)))) : St w0 w I (a :: b :: (X ++ (Y ++ (y :: x :: Q)))) := h.perm (by
  classical
  exact List.perm_iff_count.2 fun x => by simp only [List.count_cons, List.count_append]; omega)
theorem stF2 {w0 w : World} {I : Imm} {x y a b : Nat × Obj} {X Y Q : Own} (h : St w0 w I (a :: b :: (X ++ (Y ++ (y :: x :: Q))))) : St w0 w I (y :: x :: a :: b :: (X ++ (Y ++ Q))) := h.perm (by
  classical
  exact List.perm_iff_count.2 fun x => by simp only [List.count_cons, List.count_append]; omega)
theorem stMT {w0 w : World} {I : Imm} {m a b : Nat × Obj} {X Y Q : Own} (h : St w0 w I (m :: a :: b :: (X ++ (Y ++ Q)))) : St w0 w I (m :: a :: (Y ++ (b :: (X ++ Q)))) := h.perm (by
  classical
  exact List.perm_iff_count.2 fun x => by simp only [List.count_cons, List.count_append]; omega)
theorem stMB {w0 w : World} {I : Imm} {m a b : Nat × Obj} {X Y Q : Own} (h : St w0 w I (m :: a :: (Y ++ (b :: (X ++ Q))))) : St w0 w I (m :: a :: b :: (X ++ (Y ++ Q))) := h.perm (by
  classical
  exact List.perm_iff_count.2 fun x => by simp only [List.count_cons, List.count_append]; omega)
theorem stD {w0 w : World} {I : Imm} {m a b : Nat × Obj} {X Y Q : Own} (h : St w0 w I (m :: a :: b :: (X ++ (Y ++ Q)))) : St w0 w I (X ++ (m :: a :: b :: (Y ++ Q))) := h.perm (by
  classical
  exact List.perm_iff_count.2 fun x => by simp only [List.count_cons, List.count_append]; omega)
def hF (Z : ByteArray) : List HRow := [(Z.extract 0 12, Z.extract 0 16), (Z.extract 0 11, Z.extract 0 16)]
structure FuI (rows mr : List TRow) : Prop where
  se : ∀ k, pget (absT rows) k = pget (absT mr) k
  sz : ∀ r ∈ absT rows, needN (recB r.2).length ≤ 39 ∧ 1 ≤ r.1 ∧ r.1 ≤ 6
theorem FuI.put {rows rows' mr : List TRow} {it : It} {v : Value} (h : FuI rows mr) (e : absT rows' = pput (absT rows) it.id it) (hn : needN (recB it).length ≤ 39) (hi : 1 ≤ it.id ∧ it.id ≤ 6) : FuI rows' (pput mr it.id (it, v)) := by
  refine ⟨fun k => ?_, fun r hr => ?_⟩
  · rw [e, absT_put, pget_put, pget_put, h.se]
  · rw [e] at hr
    rcases pput_mem hr with rfl | hr
    · exact ⟨hn, hi⟩
    · exact h.sz r hr
theorem FuI.room {rows mr : List TRow} {next : Int} (h : FuI rows mr) (ht : TbI (absT rows) next) {it : It} (hok : ItOk it) (ho : encOk (itAV it) = true) (hn : needN (recB it).length ≤ 39) (hi : 1 ≤ it.id ∧ it.id ≤ 6) (h3 : it.heads.length ≤ 1000) : Room (absT rows) next (recB it) := by
  have hl : (pput (absT rows) it.id it).length ≤ 6 := keys_le (pput_nodup ht.nd _ _) fun r hr => by
    rcases pput_mem hr with rfl | hr
    · exact hi
    · exact (h.sz r hr).2
  have hl2 : (absT rows).length ≤ 6 := keys_le ht.nd fun r hr => (h.sz r hr).2
  exact Room.put ht hok ho hi.1 (by omega) h3 (m := 39) (by decide) (fun r hr => (h.sz r hr).1) hn (by omega) (by omega)
theorem FuI.len {rows mr : List TRow} {next : Int} (h : FuI rows mr) (ht : TbI (absT rows) next) : rows.length ≤ 6 := by
  have hl2 : (absT rows).length ≤ 6 := keys_le ht.nd fun r hr => (h.sz r hr).2
  unfold absT at hl2; rw [List.length_map] at hl2; exact hl2
theorem MIt.put {I : Imm} {oM o' : Obj} {mr : List TRow} {it : It} {v : Value} (h : MIt I oM mr) (h2 : MapR kI o' (trend (pput mr it.id (it, v)))) (hv : RdH I v it.heads) : MIt I o' (pput mr it.id (it, v)) := by
  refine ⟨h2, pput_nodup h.nd _ _, fun r hr => ?_⟩
  rcases pput_mem hr with rfl | hr
  · exact hv
  · exact h.h r hr
theorem FuI.seq {rows rows2 mr : List TRow} {next : Int} (h : FuI rows mr) (hs : SEq (absT rows2, next) (absT rows, next)) : ∀ k, pget (absT rows2) k = pget (absT mr) k := fun k => (hs.2 k).trans (h.se k)
theorem FuI.len2 {rows rows2 mr : List TRow} {next : Int} (h : FuI rows mr) (ht : TbI (absT rows) next) (ht2 : TbI (absT rows2) next) (hs : SEq (absT rows2, next) (absT rows, next)) : rows2.length ≤ 6 := by
  have h1 := hs.len ht2.nd ht.nd; have h2 := h.len ht; unfold absT at h1; rw [List.length_map, List.length_map] at h1; omega
theorem Sto.cast {I : Imm} {S : DS} {G : LG} {bs : List (List UInt8)} {rows : List TRow} {next : Int} {bT : Nat} {Lt : Own} {c c' : Int} (h : Sto I S G bs rows next bT Lt c) (e : c ≤ c') : Sto I S G bs rows next bT Lt c' := ⟨h.li, h.up, h.tb, h.ti, h.si, h.gb.mono e⟩
end Go.Proofs.YtadgbifmiooikaaGreatX
namespace Go.Proofs.YtadgbifmiooikaaGreatX
set_option linter.unusedVariables false
set_option linter.unusedSimpArgs false
open Go Go.RowKit
variable {w0 w : World} {I : Imm} {L : Own} {P : Program} {l : Env} {ty : TypeId}
theorem extract_list {s : ByteArray} {i j : Nat} : (s.extract i j).toList = (s.toList.drop i).take (j - i) := by
  rw [ByteArray.toList_eq, ByteArray.toList_eq, ByteArray.data_extract, Array.toList_extract]
def goL (l : List UInt8) : Bool := decide (0 < l.length) && decide ((l.getD 0 0).toNat ≤ 32)
def goR (l : List UInt8) : Bool := decide (0 < l.length) && decide ((l.getD (l.length - 1) 0).toNat ≤ 32)
theorem trimL_go {l : List UInt8} (h : goL l = true) : trimL (l.drop 1) = trimL l := by
  unfold goL at h
  match l, h with
  | [], h => simp at h
  | c :: r, h =>
    have hc : c.toNat ≤ 32 := by simpa using h
    show _ = trimL (c :: r)
    unfold trimL; rw [List.dropWhile_cons, if_pos (by simpa using hc)]
    rfl
theorem trimL_stop {l : List UInt8} (h : goL l = false) : trimL l = l := by
  unfold goL at h
  match l, h with
  | [], _ => rfl
  | c :: r, h =>
    have hc : ¬ c.toNat ≤ 32 := by simpa using h
    unfold trimL; rw [List.dropWhile_cons, if_neg (by simpa using hc)]
theorem trimR_go {l : List UInt8} (h : goR l = true) : trimR (l.take (l.length - 1)).length (l.take (l.length - 1)) = trimR l.length l := by
  unfold goR at h
  simp only [Bool.and_eq_true, decide_eq_true_eq] at h
  have e : (l.take (l.length - 1)).length = l.length - 1 := by rw [List.length_take]; omega
  rw [e]; obtain ⟨n, hn⟩ : ∃ n, l.length = n + 1 := ⟨l.length - 1, by omega⟩; rw [hn]
  show _ = if _ then _ else _
  rw [if_pos h, hn, Nat.add_sub_cancel]
theorem trimR_stop {n : Nat} {l : List UInt8} (h : goR l = false) : trimR n l = l := by
  unfold goR at h
  match n with
  | 0 => rfl
  | n + 1 =>
    show (if _ then _ else _) = _
    rw [if_neg]; intro h2; rw [decide_eq_true h2.1, decide_eq_true h2.2] at h
    cases h
theorem trimR_le : ∀ (n : Nat) (l : List UInt8), l.length ≤ n → trimR n l = trimR l.length l
  | 0, l, h => by
    have : l.length = 0 := by omega
    rw [this]
  | n + 1, l, h => by
    cases hg : goR l with
    | false => rw [trimR_stop hg, trimR_stop hg]
    | true =>
      rw [← trimR_go hg]; have h2 := hg; unfold goR at h2
      simp only [Bool.and_eq_true, decide_eq_true_eq] at h2
      show (if _ then _ else _) = _
      rw [if_pos h2, trimR_le n _ (by rw [List.length_take]; omega)]
theorem trimB_of {t s : List UInt8} (h : goL t = false) (h2 : trimL t = trimL s) (hl : t.length ≤ s.length) : trimR t.length t = trimB s := by
  rw [trimL_stop h] at h2; unfold trimB; rw [← h2, trimR_le s.length t hl]
theorem safe_fin : ∀ r : Nat, r < 127 → safeR r = (decide (33 ≤ r) && (decide (r ≠ 34) && (decide (r ≠ 96) && (decide (r ≠ 35) && (decide (r ≠ 60) && (decide (r ≠ 62) && (decide (r ≠ 63) && (decide (r ≠ 123) && decide (r ≠ 125))))))))) := by decide +kernel
theorem bad_1 {r : Nat} (h : (r : Int) < 33 ∨ (r : Int) > 126 ∨ (r : Int) = 34 ∨ (r : Int) = 96 ∨ (r : Int) = 35 ∨ (r : Int) = 60 ∨ (r : Int) = 62 ∨ (r : Int) = 63 ∨ (r : Int) = 123) : true = !safeR r := by
  by_cases h1 : r < 127
  · rw [safe_fin r h1]
    rcases h with h | h | h | h | h | h | h | h | h
    · rw [decide_eq_false (show ¬ 33 ≤ r by omega)]; rfl
    · omega
    all_goals
      obtain rfl : r = _ := Int.ofNat_inj.1 h
      decide
  · rw [← safe_2 (by omega)]
    rfl
theorem bad_2 {r : Nat} (h0 : ¬ (r : Int) < 33) (h1 : ¬ (r : Int) > 126) (h2 : ¬ (r : Int) = 34) (h3 : ¬ (r : Int) = 96) (h4 : ¬ (r : Int) = 35) (h5 : ¬ (r : Int) = 60) (h6 : ¬ (r : Int) = 62) (h7 : ¬ (r : Int) = 63) (h8 : ¬ (r : Int) = 123) : decide ((r : Int) = 125) = !safeR r := by
  rw [safe_fin r (by omega), decide_eq_true (show 33 ≤ r by omega), decide_eq_true (show r ≠ 34 by omega), decide_eq_true (show r ≠ 96 by omega), decide_eq_true (show r ≠ 35 by omega), decide_eq_true (show r ≠ 60 by omega), decide_eq_true (show r ≠ 62 by omega), decide_eq_true (show r ≠ 63 by omega), decide_eq_true (show r ≠ 123 by omega)]
  simp only [Bool.true_and]
  by_cases h9 : r = 125
  · rw [decide_eq_true (show (r : Int) = 125 by omega), decide_eq_false (show ¬ r ≠ 125 by omega)]; rfl
  · rw [decide_eq_false (show ¬ (r : Int) = 125 by omega), decide_eq_true (show r ≠ 125 by omega)]; rfl
theorem safe_small {r : Nat} (h : safeR r = true) : r ≤ 126 := by
  unfold safeR at h
  simp at h
  omega
theorem hex_cut : ∀ n : Nat, n < 16 → hexS.extract n (n + 1) = strOf [hexD n] := by decide +kernel
theorem runs_hexSl {t : TypeId} {x y y' : Operand} {k k' : IntKind} {n : Nat} {lo hi : Int} (ht : P.underlying t = some .string) (hx : ev l x = some (.string hexS)) (hy : ev l y = some (.int k lo)) (hy' : ev l y' = some (.int k' hi)) (hlo : lo = (n : Int)) (hhi : hi = (n : Int) + 1) (hn : n < 16) :
    Runs P (.slice t x (some y) (some y') none) ty l w (.value (.string (strOf [hexD n]))) w := by
  subst hlo hhi; have h := runs_sliceS_lh (w := w) (ty := ty) ht hx hy hy' (by show 0 ≤ (n : Int) ∧ (n : Int) ≤ n + 1 ∧ (n : Int) + 1 ≤ ((16 : Nat) : Int); omega); rw [Int.toNat_natCast, show ((n : Int) + 1).toNat = n + 1 by omega, hex_cut n hn] at h; exact h
theorem strOf_app (a b : List UInt8) : strOf a ++ strOf b = strOf (a ++ b) := by
  apply ByteArray.ext
  simp [strOf]
theorem strOf_of (s : ByteArray) : strOf s.toList = s := by rw [ByteArray.toList_eq]; rfl
theorem enc_str (r : Int) : Utf8.encode r = strOf (encL r) := (strOf_of _).symm
end Go.Proofs.YtadgbifmiooikaaGreatX
namespace Go.Proofs.YtadgbifmiooikaaGreatX
set_option linter.unusedVariables false
set_option linter.unusedSimpArgs false
open Go Go.RowKit
theorem strOfE (s : ByteArray) : strOf s.toList = s := by rw [ByteArray.toList_eq]; rfl
theorem extractE (s : ByteArray) (i j : Nat) : s.extract i j = strOf ((s.toList.drop i).take (j - i)) := by rw [← extract_list, strOfE]
theorem strOfZ (l : List UInt8) : (strOf l).size = l.length := by rw [← size_toList, strOf_toList]
theorem emptyL : (ByteArray.mk #[]).toList = [] := by rw [ByteArray.toList_eq]
theorem takeE_more {α : Type} {p : α → Prop} {xs : List α} {k : Nat} (h : ∀ x ∈ xs.take k, p x) (hk : k < xs.length) (hp : p xs[k]) : ∀ x ∈ xs.take (k + 1), p x := by
  intro x hx; rw [List.take_add_one, List.getElem?_eq_getElem hk] at hx
  rcases List.mem_append.1 hx with hx | hx
  · exact h x hx
  · simp at hx
    subst hx; exact hp
theorem get_getD {l : List UInt8} {k : Nat} (h : k < l.length) : l.getD k 0 = l[k] := by
  rw [List.getD_eq_getElem?_getD, List.getElem?_eq_getElem h]
  rfl
theorem strOf_append (a b : List UInt8) : strOf a ++ strOf b = strOf (a ++ b) := by
  apply ByteArray.ext
  rw [ByteArray.data_append]
  simp [strOf]
def stopK (st l : List UInt8) : Nat := l.findIdx (fun c => st.contains c)
def untilL (st l : List UInt8) : List UInt8 × List UInt8 := (l.take (stopK st l), l.drop (stopK st l))
theorem untilL_no {st l : List UInt8} (h : ∀ x ∈ l, st.contains x = false) : untilL st l = (l, []) := by
  have hk : stopK st l = l.length := by
    unfold stopK; rw [List.findIdx_eq_length]; intro x hx; rw [h x hx]
  unfold untilL; rw [hk, List.take_length, List.drop_length]
theorem stopK_at {st a b : List UInt8} {c : UInt8} (h : ∀ x ∈ a, st.contains x = false) (hc : st.contains c = true) : stopK st (a ++ c :: b) = a.length := by
  unfold stopK
  induction a with
  | nil =>
    rw [List.nil_append, List.findIdx_cons, hc]
    rfl
  | cons x r ih =>
    rw [List.cons_append, List.findIdx_cons, h x (by simp), cond_false, ih (fun y hy => h y (List.mem_cons_of_mem _ hy))]
    rfl
theorem untilL_at {st a b : List UInt8} {c : UInt8} (h : ∀ x ∈ a, st.contains x = false) (hc : st.contains c = true) : untilL st (a ++ c :: b) = (a, c :: b) := by
  unfold untilL; rw [stopK_at h hc, List.take_left, List.drop_left]
theorem untilL_len (st l : List UInt8) : (untilL st l).1.length ≤ l.length ∧ (untilL st l).2.length ≤ l.length := by
  unfold untilL; exact ⟨by rw [List.length_take]; omega, by rw [List.length_drop]; omega⟩
theorem untilL_get {st l : List UInt8} {k : Nat} (hk : k < l.length) (h : ∀ x ∈ l.take k, st.contains x = false) (hc : st.contains l[k] = true) : untilL st l = (l.take k, l.drop k) := by
  have e : l = l.take k ++ l[k] :: l.drop (k + 1) := by rw [← List.drop_eq_getElem_cons hk, List.take_append_drop]
  have h2 := untilL_at (b := l.drop (k + 1)) h hc; rw [← e] at h2; rw [h2, ← List.drop_eq_getElem_cons hk]
end Go.Proofs.YtadgbifmiooikaaGreatX
