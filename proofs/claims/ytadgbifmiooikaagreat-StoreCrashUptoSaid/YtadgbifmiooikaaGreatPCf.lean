/- Parts of a proof, joined: walks through the program's functions and their laws, in the order in which they need each other. -/
import Derived.Test.YtadgbifmiooikaaGreatPCb
import Derived.Test.YtadgbifmiooikaaGreatPCe
import Derived.RangeFuncLeaves
import Derived.RangeFuncSeq
import Derived.TacticsIn
namespace Go.Proofs.YtadgbifmiooikaaGreatX
set_option linter.unusedVariables false
set_option linter.unusedSimpArgs false
open Go Go.RowKit Go.Proofs
set_option maxRecDepth 100000 in
set_option maxHeartbeats 8000000 in
theorem rd_read_spec {w0 w : World} {I : Imm} {L : Own} {bR : Nat} {v : Value} (hst : St w0 w I ((bR, Obj.cells #[v, .int .i64 ((0 : Nat) : Int), .bool false] 186) :: L)) {av : List AV} {m : Nat} {o : Bool} (hv : RdA I v av) (hgood : ∀ a ∈ av, a.good m o) (hlen : av.length ≤ 100000000) :
    Calls Tryz.prog 129 #[.pointer (some ⟨bR, 0, none⟩)] w fun e w' => ∃ I' vh p, I.le I' ∧ e = .returned (itv (readIt av) vh) ∧ vh.oneCell' = true ∧ RdH I' vh (readIt av).heads ∧ St w0 w' I' ((bR, Obj.cells #[v, .int .i64 ((p : Nat) : Int), .bool (readBad av)] 186) :: L) := by
  refine enter Tryz.func129 rfl (N := 91) rfl rfl ?_
  simp only [zA, zB, zC, zD, zE, Nat.reduceAdd]
  have hle := Imm.le.refl I; refine zR <| ze rfl (runs_alloc ti40 hst) ?_; clear hst; rintro _ w ⟨b1, rfl, hst⟩; refine zN <| ze rfl (runs_alloc ti40 hst) ?_; clear hst; rintro _ w ⟨b2, rfl, hst⟩; refine zN ?_; replace hst := hst.perm (List.perm_middle (l₁ := [_, _])); refine zm rfl rfl <| zK rfl call145 rfl rfl (rd_number_spec (s := (0 : Nat)) hst hv hgood (by omega)) ?_; clear hst; rintro e w ⟨bb0, rfl, hb0, hst⟩; refine ⟨_, rfl, ?_⟩; refine zm rfl rfl <| zK rfl call145 rfl rfl (rd_number_spec (s := (1 : Nat)) hst hv hgood (by omega)) ?_; clear hst; rintro e w ⟨bb1, rfl, hb1, hst⟩; refine ⟨_, rfl, ?_⟩; refine zm rfl rfl <| zK rfl call145 rfl rfl (rd_number_spec (s := (2 : Nat)) hst hv hgood (by omega)) ?_; clear hst; rintro e w ⟨bb2, rfl, hb2, hst⟩; refine ⟨_, rfl, ?_⟩; refine zm rfl rfl <| zK rfl call146 rfl rfl (rd_text_spec (s := (3 : Nat)) hst hv hgood (by omega)) ?_; clear hst; rintro e w ⟨bb3, rfl, hb3, hst⟩; refine ⟨_, rfl, ?_⟩; refine zp rfl rfl U40 rfl ti3 rfl ?_; refine zy 1 ti3 rfl rfl hst rfl rfl rfl ?_; clear hst; rintro w hst; (try simp only [sZ, sS] at hst); refine zp rfl rfl U40 rfl ti3 rfl ?_; refine zy 1 ti3 rfl rfl hst rfl rfl rfl ?_; clear hst; rintro w hst; (try simp only [sZ, sS] at hst); refine zp rfl rfl U40 rfl ti3 rfl ?_; refine zy 1 ti3 rfl rfl hst rfl rfl rfl ?_; clear hst; rintro w hst; (try simp only [sZ, sS] at hst); refine zp rfl rfl U40 rfl ti9 rfl ?_; refine zy 1 ti9 rfl rfl hst rfl rfl rfl ?_; clear hst; rintro w hst; (try simp only [sZ, sS] at hst); replace hst : St w0 w _ ((bR, _) :: (b2, Obj.cells #[.int .i64 (numOf (atA av ((0 : Nat) : Int))), .int .i64 (numOf (atA av ((1 : Nat) : Int))), .int .i64 (numOf (atA av ((2 : Nat) : Int))), .string (txtOf (atA av ((3 : Nat) : Int))), .string .empty, .string .empty, .slice none 0 0, .string .empty, .int .i64 0, .int .i64 0, .string .empty, .string .empty, .int .i64 0, .string .empty, .string .empty, .string .empty, .int .i64 0, .int .i64 0, .int .i64 0, .bool false, .string .empty, .string .empty, .int .i64 0, .int .i64 0, .bool false] 40) :: (b1, _) :: L) := hst; refine zN <| zm rfl rfl <| zK rfl call146 rfl rfl (rd_text_spec (s := (4 : Nat)) hst hv hgood (by omega)) ?_; clear hst; rintro e w ⟨bb4, rfl, hb4, hst⟩; refine ⟨_, rfl, ?_⟩; refine zm rfl rfl <| zK rfl call146 rfl rfl (rd_text_spec (s := (5 : Nat)) hst hv hgood (by omega)) ?_; clear hst; rintro e w ⟨bb5, rfl, hb5, hst⟩; refine ⟨_, rfl, ?_⟩; refine zp rfl rfl U40 rfl ti36 rfl <| zp rfl rfl U36 rfl ti9 rfl ?_; refine zy 1 ti9 rfl rfl hst rfl rfl rfl ?_; clear hst; rintro w hst; (try simp only [sZ, sS] at hst); refine zp rfl rfl U40 rfl ti36 rfl <| zp rfl rfl U36 rfl ti9 rfl ?_; refine zy 1 ti9 rfl rfl hst rfl rfl rfl ?_; clear hst; rintro w hst; (try simp only [sZ, sS] at hst); replace hst : St w0 w _ ((bR, _) :: (b2, Obj.cells #[.int .i64 (numOf (atA av ((0 : Nat) : Int))), .int .i64 (numOf (atA av ((1 : Nat) : Int))), .int .i64 (numOf (atA av ((2 : Nat) : Int))), .string (txtOf (atA av ((3 : Nat) : Int))), .string (txtOf (atA av ((4 : Nat) : Int))), .string (txtOf (atA av ((5 : Nat) : Int))), .slice none 0 0, .string .empty, .int .i64 0, .int .i64 0, .string .empty, .string .empty, .int .i64 0, .string .empty, .string .empty, .string .empty, .int .i64 0, .int .i64 0, .int .i64 0, .bool false, .string .empty, .string .empty, .int .i64 0, .int .i64 0, .bool false] 40) :: (b1, _) :: L) := hst; refine zN <| zm rfl rfl <| zm rfl rfl <| zK rfl call145 rfl rfl (rd_number_spec (s := (6 : Nat)) hst hv hgood (by omega)) ?_; clear hst; rintro e w ⟨bb6, rfl, hb6, hst⟩
  have hb7 : bb6 = headBad av := by rw [hb6, hb5, hb4, hb3, hb2, hb1, hb0]; unfold headBad; simp [Bool.not_and, Bool.or_assoc]
  rw [hb7] at hst; have hrl := readH_le av
  have hs7 : headBad av = false → 7 ≤ av.length := by
    intro h0; unfold headBad at h0
    simp only [Bool.not_eq_false', Bool.and_eq_true] at h0
    have := is_in (.inl h0.2); omega
  refine ⟨_, rfl, ?_⟩; refine zK rfl call147 rfl rfl (rd_heads_spec (s := 7) hst hv hgood _ (numOf_ok (atA_good hgood _)) hs7 (by omega) hlen) ?_; clear hst; rintro e w ⟨J27, vh, hJ27, rfl, hvh, hst⟩; obtain ⟨p, bp, hp⟩ : ∃ p b, (readH av).2 = (p, b) := ⟨_, _, rfl⟩; have hp2 : (rdH av (numOf (atA av ((0 + 1 + 1 + 1 + 1 + 1 + 1 : Nat) : Int))).toNat (7, headBad av)).2 = (p, bp) := hp; rw [hp2] at hst; have hvh : RdH J27 vh (readH av).1 := hvh; rw [hp] at hrl; dsimp only at hrl hst; replace hv := hv.mono hJ27; replace hle := hle.trans hJ27; refine ⟨_, rfl, ?_⟩; refine zp rfl rfl U40 rfl ti36 rfl <| zp rfl rfl U36 rfl ti34 rfl <| z0 (runs_store1P ti34 rfl rfl hst (k := 1) rfl rfl (NoFz.zero _) (RdL.one hvh)) ?_; clear hst; rintro w hst; (try simp only [sZ, sS] at hst); replace hst : St w0 w _ ((bR, _) :: (b2, Obj.cells #[.int .i64 (numOf (atA av ((0 : Nat) : Int))), .int .i64 (numOf (atA av ((1 : Nat) : Int))), .int .i64 (numOf (atA av ((2 : Nat) : Int))), .string (txtOf (atA av ((3 : Nat) : Int))), .string (txtOf (atA av ((4 : Nat) : Int))), .string (txtOf (atA av ((5 : Nat) : Int))), vh, .string .empty, .int .i64 0, .int .i64 0, .string .empty, .string .empty, .int .i64 0, .string .empty, .string .empty, .string .empty, .int .i64 0, .int .i64 0, .int .i64 0, .bool false, .string .empty, .string .empty, .int .i64 0, .int .i64 0, .bool false] 40) :: (b1, _) :: L) := hst; refine zN <| zm rfl rfl <| zK rfl call146 rfl rfl (rd_text_spec (s := (p : Nat)) hst hv hgood (by omega)) ?_; clear hst; rintro e w ⟨bb10, rfl, hb10, hst⟩; refine ⟨_, rfl, ?_⟩; refine zm rfl rfl <| zK rfl call145 rfl rfl (rd_number_spec (s := (p + 1 : Nat)) hst hv hgood (by omega)) ?_; clear hst; rintro e w ⟨bb11, rfl, hb11, hst⟩; refine ⟨_, rfl, ?_⟩; refine zm rfl rfl <| zK rfl call145 rfl rfl (rd_number_spec (s := (p + 2 : Nat)) hst hv hgood (by omega)) ?_; clear hst; rintro e w ⟨bb12, rfl, hb12, hst⟩; refine ⟨_, rfl, ?_⟩; refine zp rfl rfl U40 rfl ti36 rfl <| zp rfl rfl U36 rfl ti9 rfl ?_; refine zy 1 ti9 rfl rfl hst rfl rfl rfl ?_; clear hst; rintro w hst; (try simp only [sZ, sS] at hst); refine zp rfl rfl U40 rfl ti36 rfl <| zp rfl rfl U36 rfl ti3 rfl ?_; refine zy 1 ti3 rfl rfl hst rfl rfl rfl ?_; clear hst; rintro w hst; (try simp only [sZ, sS] at hst); refine zp rfl rfl U40 rfl ti36 rfl <| zp rfl rfl U36 rfl ti3 rfl ?_; refine zy 1 ti3 rfl rfl hst rfl rfl rfl ?_; clear hst; rintro w hst; (try simp only [sZ, sS] at hst); replace hst : St w0 w _ ((bR, _) :: (b2, Obj.cells #[.int .i64 (numOf (atA av ((0 : Nat) : Int))), .int .i64 (numOf (atA av ((1 : Nat) : Int))), .int .i64 (numOf (atA av ((2 : Nat) : Int))), .string (txtOf (atA av ((3 : Nat) : Int))), .string (txtOf (atA av ((4 : Nat) : Int))), .string (txtOf (atA av ((5 : Nat) : Int))), vh, .string (txtOf (atA av ((p : Nat) : Int))), .int .i64 (numOf (atA av ((p + 1 : Nat) : Int))), .int .i64 (numOf (atA av ((p + 2 : Nat) : Int))), .string .empty, .string .empty, .int .i64 0, .string .empty, .string .empty, .string .empty, .int .i64 0, .int .i64 0, .int .i64 0, .bool false, .string .empty, .string .empty, .int .i64 0, .int .i64 0, .bool false] 40) :: (b1, _) :: L) := hst; refine zN <| zm rfl rfl <| zK rfl call146 rfl rfl (rd_text_spec (s := (p + 3 : Nat)) hst hv hgood (by omega)) ?_; clear hst; rintro e w ⟨bb13, rfl, hb13, hst⟩; refine ⟨_, rfl, ?_⟩; refine zm rfl rfl <| zK rfl call146 rfl rfl (rd_text_spec (s := (p + 4 : Nat)) hst hv hgood (by omega)) ?_; clear hst; rintro e w ⟨bb14, rfl, hb14, hst⟩; refine ⟨_, rfl, ?_⟩; refine zm rfl rfl <| zK rfl call145 rfl rfl (rd_number_spec (s := (p + 5 : Nat)) hst hv hgood (by omega)) ?_; clear hst; rintro e w ⟨bb15, rfl, hb15, hst⟩; refine ⟨_, rfl, ?_⟩; refine zp rfl rfl U40 rfl ti38 rfl ?_
  refine zp rfl rfl U38 rfl ti9 rfl ?_; refine zy 1 ti9 rfl rfl hst rfl rfl rfl ?_; clear hst; rintro w hst; (try simp only [sZ, sS] at hst); refine zp rfl rfl U40 rfl ti38 rfl <| zp rfl rfl U38 rfl ti9 rfl ?_; refine zy 1 ti9 rfl rfl hst rfl rfl rfl ?_; clear hst; rintro w hst; (try simp only [sZ, sS] at hst); refine zp rfl rfl U40 rfl ti38 rfl <| zp rfl rfl U38 rfl ti3 rfl ?_; refine zy 1 ti3 rfl rfl hst rfl rfl rfl ?_; clear hst; rintro w hst; (try simp only [sZ, sS] at hst); replace hst : St w0 w _ ((bR, _) :: (b2, Obj.cells #[.int .i64 (numOf (atA av ((0 : Nat) : Int))), .int .i64 (numOf (atA av ((1 : Nat) : Int))), .int .i64 (numOf (atA av ((2 : Nat) : Int))), .string (txtOf (atA av ((3 : Nat) : Int))), .string (txtOf (atA av ((4 : Nat) : Int))), .string (txtOf (atA av ((5 : Nat) : Int))), vh, .string (txtOf (atA av ((p : Nat) : Int))), .int .i64 (numOf (atA av ((p + 1 : Nat) : Int))), .int .i64 (numOf (atA av ((p + 2 : Nat) : Int))), .string (txtOf (atA av ((p + 3 : Nat) : Int))), .string (txtOf (atA av ((p + 4 : Nat) : Int))), .int .i64 (numOf (atA av ((p + 5 : Nat) : Int))), .string .empty, .string .empty, .string .empty, .int .i64 0, .int .i64 0, .int .i64 0, .bool false, .string .empty, .string .empty, .int .i64 0, .int .i64 0, .bool false] 40) :: (b1, _) :: L) := hst; refine zN <| zm rfl rfl <| zK rfl call146 rfl rfl (rd_text_spec (s := (p + 6 : Nat)) hst hv hgood (by omega)) ?_; clear hst; rintro e w ⟨bb16, rfl, hb16, hst⟩; refine ⟨_, rfl, ?_⟩; refine zm rfl rfl <| zK rfl call146 rfl rfl (rd_text_spec (s := (p + 7 : Nat)) hst hv hgood (by omega)) ?_; clear hst; rintro e w ⟨bb17, rfl, hb17, hst⟩; refine ⟨_, rfl, ?_⟩; refine zm rfl rfl <| zK rfl call146 rfl rfl (rd_text_spec (s := (p + 8 : Nat)) hst hv hgood (by omega)) ?_; clear hst; rintro e w ⟨bb18, rfl, hb18, hst⟩; refine ⟨_, rfl, ?_⟩; refine zp rfl rfl U40 rfl ti9 rfl ?_; refine zy 1 ti9 rfl rfl hst rfl rfl rfl ?_; clear hst; rintro w hst; (try simp only [sZ, sS] at hst); refine zp rfl rfl U40 rfl ti9 rfl ?_; refine zy 1 ti9 rfl rfl hst rfl rfl rfl ?_; clear hst; rintro w hst; (try simp only [sZ, sS] at hst); refine zp rfl rfl U40 rfl ti9 rfl ?_; refine zy 1 ti9 rfl rfl hst rfl rfl rfl ?_; clear hst; rintro w hst; (try simp only [sZ, sS] at hst); replace hst : St w0 w _ ((bR, _) :: (b2, Obj.cells #[.int .i64 (numOf (atA av ((0 : Nat) : Int))), .int .i64 (numOf (atA av ((1 : Nat) : Int))), .int .i64 (numOf (atA av ((2 : Nat) : Int))), .string (txtOf (atA av ((3 : Nat) : Int))), .string (txtOf (atA av ((4 : Nat) : Int))), .string (txtOf (atA av ((5 : Nat) : Int))), vh, .string (txtOf (atA av ((p : Nat) : Int))), .int .i64 (numOf (atA av ((p + 1 : Nat) : Int))), .int .i64 (numOf (atA av ((p + 2 : Nat) : Int))), .string (txtOf (atA av ((p + 3 : Nat) : Int))), .string (txtOf (atA av ((p + 4 : Nat) : Int))), .int .i64 (numOf (atA av ((p + 5 : Nat) : Int))), .string (txtOf (atA av ((p + 6 : Nat) : Int))), .string (txtOf (atA av ((p + 7 : Nat) : Int))), .string (txtOf (atA av ((p + 8 : Nat) : Int))), .int .i64 0, .int .i64 0, .int .i64 0, .bool false, .string .empty, .string .empty, .int .i64 0, .int .i64 0, .bool false] 40) :: (b1, _) :: L) := hst; refine zN <| zm rfl rfl <| zK rfl call145 rfl rfl (rd_number_spec (s := (p + 9 : Nat)) hst hv hgood (by omega)) ?_; clear hst; rintro e w ⟨bb19, rfl, hb19, hst⟩; refine ⟨_, rfl, ?_⟩; refine zm rfl rfl <| zK rfl call145 rfl rfl (rd_number_spec (s := (p + 10 : Nat)) hst hv hgood (by omega)) ?_; clear hst; rintro e w ⟨bb20, rfl, hb20, hst⟩; refine ⟨_, rfl, ?_⟩
  refine zm rfl rfl <| zK rfl call145 rfl rfl (rd_number_spec (s := (p + 11 : Nat)) hst hv hgood (by omega)) ?_; clear hst; rintro e w ⟨bb21, rfl, hb21, hst⟩; refine ⟨_, rfl, ?_⟩; refine zm rfl rfl <| zK rfl call148 rfl rfl (rd_flag_spec (s := (p + 12 : Nat)) hst hv hgood (by omega)) ?_; clear hst; rintro e w ⟨bb22, rfl, hb22, hst⟩; refine ⟨_, rfl, ?_⟩; refine zp rfl rfl U40 rfl ti3 rfl ?_; refine zy 1 ti3 rfl rfl hst rfl rfl rfl ?_; clear hst; rintro w hst; (try simp only [sZ, sS] at hst); refine zp rfl rfl U40 rfl ti3 rfl ?_; refine zy 1 ti3 rfl rfl hst rfl rfl rfl ?_; clear hst; rintro w hst; (try simp only [sZ, sS] at hst); refine zp rfl rfl U40 rfl ti3 rfl ?_; refine zy 1 ti3 rfl rfl hst rfl rfl rfl ?_; clear hst; rintro w hst; (try simp only [sZ, sS] at hst); refine zp rfl rfl U40 rfl ti4 rfl ?_; refine zy 1 ti4 rfl rfl hst rfl rfl rfl ?_; clear hst; rintro w hst; (try simp only [sZ, sS] at hst); replace hst : St w0 w _ ((bR, _) :: (b2, Obj.cells #[.int .i64 (numOf (atA av ((0 : Nat) : Int))), .int .i64 (numOf (atA av ((1 : Nat) : Int))), .int .i64 (numOf (atA av ((2 : Nat) : Int))), .string (txtOf (atA av ((3 : Nat) : Int))), .string (txtOf (atA av ((4 : Nat) : Int))), .string (txtOf (atA av ((5 : Nat) : Int))), vh, .string (txtOf (atA av ((p : Nat) : Int))), .int .i64 (numOf (atA av ((p + 1 : Nat) : Int))), .int .i64 (numOf (atA av ((p + 2 : Nat) : Int))), .string (txtOf (atA av ((p + 3 : Nat) : Int))), .string (txtOf (atA av ((p + 4 : Nat) : Int))), .int .i64 (numOf (atA av ((p + 5 : Nat) : Int))), .string (txtOf (atA av ((p + 6 : Nat) : Int))), .string (txtOf (atA av ((p + 7 : Nat) : Int))), .string (txtOf (atA av ((p + 8 : Nat) : Int))), .int .i64 (numOf (atA av ((p + 9 : Nat) : Int))), .int .i64 (numOf (atA av ((p + 10 : Nat) : Int))), .int .i64 (numOf (atA av ((p + 11 : Nat) : Int))), .bool (flgOf (atA av ((p + 12 : Nat) : Int))), .string .empty, .string .empty, .int .i64 0, .int .i64 0, .bool false] 40) :: (b1, _) :: L) := hst; refine zN <| zm rfl rfl <| zK rfl call146 rfl rfl (rd_text_spec (s := (p + 13 : Nat)) hst hv hgood (by omega)) ?_; clear hst; rintro e w ⟨bb23, rfl, hb23, hst⟩; refine ⟨_, rfl, ?_⟩; refine zm rfl rfl <| zK rfl call146 rfl rfl (rd_text_spec (s := (p + 14 : Nat)) hst hv hgood (by omega)) ?_; clear hst; rintro e w ⟨bb24, rfl, hb24, hst⟩; refine ⟨_, rfl, ?_⟩; refine zm rfl rfl <| zK rfl call145 rfl rfl (rd_number_spec (s := (p + 15 : Nat)) hst hv hgood (by omega)) ?_; clear hst; rintro e w ⟨bb25, rfl, hb25, hst⟩; refine ⟨_, rfl, ?_⟩; refine zm rfl rfl <| zK rfl call145 rfl rfl (rd_number_spec (s := (p + 16 : Nat)) hst hv hgood (by omega)) ?_; clear hst; rintro e w ⟨bb26, rfl, hb26, hst⟩; refine ⟨_, rfl, ?_⟩; refine zm rfl rfl <| zK rfl call148 rfl rfl (rd_flag_spec (s := (p + 17 : Nat)) hst hv hgood (by omega)) ?_; clear hst; rintro e w ⟨bb27, rfl, hb27, hst⟩; refine ⟨_, rfl, ?_⟩; refine zp rfl rfl U40 rfl ti9 rfl ?_; refine zy 1 ti9 rfl rfl hst rfl rfl rfl ?_; clear hst; rintro w hst; (try simp only [sZ, sS] at hst); refine zp rfl rfl U40 rfl ti9 rfl ?_; refine zy 1 ti9 rfl rfl hst rfl rfl rfl ?_; clear hst; rintro w hst; (try simp only [sZ, sS] at hst); refine zp rfl rfl U40 rfl ti3 rfl ?_; refine zy 1 ti3 rfl rfl hst rfl rfl rfl ?_; clear hst; rintro w hst; (try simp only [sZ, sS] at hst); refine zp rfl rfl U40 rfl ti3 rfl ?_; refine zy 1 ti3 rfl rfl hst rfl rfl rfl ?_; clear hst; rintro w hst; (try simp only [sZ, sS] at hst); refine zp rfl rfl U40 rfl ti4 rfl ?_; refine zy 1 ti4 rfl rfl hst rfl rfl rfl ?_; clear hst; rintro w hst; (try simp only [sZ, sS] at hst)
  replace hst : St w0 w _ ((bR, _) :: (b2, Obj.cells #[.int .i64 (numOf (atA av ((0 : Nat) : Int))), .int .i64 (numOf (atA av ((1 : Nat) : Int))), .int .i64 (numOf (atA av ((2 : Nat) : Int))), .string (txtOf (atA av ((3 : Nat) : Int))), .string (txtOf (atA av ((4 : Nat) : Int))), .string (txtOf (atA av ((5 : Nat) : Int))), vh, .string (txtOf (atA av ((p : Nat) : Int))), .int .i64 (numOf (atA av ((p + 1 : Nat) : Int))), .int .i64 (numOf (atA av ((p + 2 : Nat) : Int))), .string (txtOf (atA av ((p + 3 : Nat) : Int))), .string (txtOf (atA av ((p + 4 : Nat) : Int))), .int .i64 (numOf (atA av ((p + 5 : Nat) : Int))), .string (txtOf (atA av ((p + 6 : Nat) : Int))), .string (txtOf (atA av ((p + 7 : Nat) : Int))), .string (txtOf (atA av ((p + 8 : Nat) : Int))), .int .i64 (numOf (atA av ((p + 9 : Nat) : Int))), .int .i64 (numOf (atA av ((p + 10 : Nat) : Int))), .int .i64 (numOf (atA av ((p + 11 : Nat) : Int))), .bool (flgOf (atA av ((p + 12 : Nat) : Int))), .string (txtOf (atA av ((p + 13 : Nat) : Int))), .string (txtOf (atA av ((p + 14 : Nat) : Int))), .int .i64 (numOf (atA av ((p + 15 : Nat) : Int))), .int .i64 (numOf (atA av ((p + 16 : Nat) : Int))), .bool (flgOf (atA av ((p + 17 : Nat) : Int)))] 40) :: (b1, _) :: L) := hst; refine zN ?_; have hvo := RdL.one hvh
  have hbq : bb27 = readBad av := by
    rw [hb27, hb26, hb25, hb24, hb23, hb22, hb21, hb20, hb19, hb18, hb17, hb16, hb15, hb14, hb13, hb12, hb11, hb10]; unfold readBad tailBad; rw [hp]
    simp only [Bool.not_and, Bool.or_assoc]
  rw [hbq] at hst; refine z1 rfl (runs_loadN (vs := _) ag40 ti40 rfl hst (k := 1) rfl rfl rfl) ?_; refine z0 (runs_storeW ti40 rfl rfl hst (k := 2) rfl rfl rfl (NoFz.zero _) (it_one (mkIt av (readH av).1 p) hvo)) ?_; clear hst; rintro w hst; (try simp only [sZ, sS] at hst); refine zM <| CW.ret <| AQ.retS rfl rfl (hst.loadN (vs := [_, _, _, _, _, _, _, _, _, _, _, _, _, _, _, _, _, _, _, _, _, _, _, _, _]) (k := 2) ag40 ti40 rfl rfl rfl) ?_
  have e2 : readIt av = mkIt av (readH av).1 p := by unfold readIt; rw [hp]
  refine ⟨J27, vh, p + 18, hle, by rw [e2]; rfl, hvo, by rw [e2]; exact hvh, ?_⟩; exact hst.sub (((List.sublist_cons_self _ _).trans (List.sublist_cons_self _ _)).cons_cons _)
theorem decF_facts : ∀ (n : Nat) (b : List UInt8) (av : List AV), decF n b = some av → av.length ≤ b.length ∧ ∀ a ∈ av, a.good 255 false
  | 0, b, av, h => by
    unfold decF at h
    split at h
    · cases h; exact ⟨Nat.zero_le _, by simp⟩
    · cases h
  | n + 1, b, av, h => by
    unfold decF at h
    split at h
    · cases h; exact ⟨Nat.zero_le _, by simp⟩
    · rename_i hb
      cases hd : dec1 b with
      | none => rw [hd] at h; cases h
      | some x =>
        obtain ⟨a, k⟩ := x; rw [hd] at h; dsimp only at h; obtain ⟨r, hr, rfl⟩ := Option.map_eq_some_iff.1 h; obtain ⟨h1, h2⟩ := decF_facts n _ r hr; have hk := dec1_pos hd; have hpos : 0 < b.length := List.length_pos_iff.2 hb; rw [List.length_drop] at h1; refine ⟨by rw [List.length_cons]; omega, fun y hy => ?_⟩
        rcases List.mem_cons.1 hy with rfl | hy
        · exact dec1_good hd
        · exact h2 y hy
theorem decA_facts {b : List UInt8} {av : List AV} (h : decA b = some av) : av.length ≤ b.length ∧ ∀ a ∈ av, a.good 255 false := decF_facts _ _ _ h
theorem readIt_ok {m : Nat} {o : Bool} {av : List AV} (h : ∀ a ∈ av, a.good m o) (hl : av.length ≤ 100000000) : ItOk (readIt av) := mkIt_ok h (by have := readH_le av; omega) _
theorem zeroIt_ok : ItOk zeroIt := ⟨by unfold i64ok; decide, by unfold i64ok; decide, by unfold i64ok; decide, by unfold i64ok; decide, by unfold i64ok; decide, by unfold i64ok; decide, by unfold i64ok; decide, by unfold i64ok; decide, by unfold i64ok; decide, by unfold i64ok; decide, by unfold i64ok; decide, Nat.zero_le _⟩
theorem decIt_of {b : List UInt8} {av : List AV} (h : decA b = some av) : decIt b = if (!readBad av && encOk (itAV (readIt av)) && (encA (itAV (readIt av)) == b)) = true then some (readIt av) else none := by
  unfold decIt; rw [h]; dsimp only
  by_cases h1 : readBad av = false ∧ encOk (itAV (readIt av)) = true ∧ encA (itAV (readIt av)) = b
  · rw [if_pos h1, if_pos (by rw [h1.1, h1.2.1]; simpa using h1.2.2)]
  · rw [if_neg h1, if_neg (fun h2 => h1 (by simpa [and_assoc] using h2))]
set_option maxRecDepth 100000 in
set_option maxHeartbeats 4000000 in
theorem itdec_spec {w0 w : World} {I : Imm} {L : Own} (hst : St w0 w I L) {v : Value} {b : List UInt8} (hv : RdB I v b) (hlen : b.length ≤ 100000000) :
    Calls Tryz.prog 117 #[v] w fun e w' => ∃ I' it vh, I.le I' ∧ e = .returned (.tuple #[itv it vh, .int .i64 (if (decIt b).isSome then 0 else 2)]) ∧ vh.oneCell' = true ∧ RdH I' vh it.heads ∧ ItOk it ∧ it = (decIt b).getD zeroIt ∧ St w0 w' I' L := by
  refine enter Tryz.func117 rfl (N := 44) rfl rfl ?_
  simp only [zA, zB, zC, zD, zE, Nat.reduceAdd]
  have hle := Imm.le.refl I; refine zR <| ze rfl (runs_alloc ti40 hst) ?_; clear hst; rintro _ w ⟨b1, rfl, hst⟩; refine zS rfl rfl <| zN <| zm rfl rfl <| zK rfl call71 rfl rfl (dec_spec hst hv hlen) ?_; clear hst; rintro e w ⟨J12, v12, hJ12, rfl, hst, hv12⟩; replace hv := hv.mono hJ12; replace hle := hle.trans hJ12; refine ⟨_, rfl, ?_⟩; refine zm rfl rfl <| zx rfl rfl rfl <| zx rfl rfl rfl <| zS rfl rfl <| zS rfl rfl <| zM <| zk <| zR <| zm rfl rfl <| z1 rfl (runs_neI rfl rfl) ?_; refine zM ?_; refine zb rfl (fun hc16 => ?_) (fun hc16 => ?_)
  · have hcb16 := hc16; (try simp only [dY, dF] at hc16)
    have hdn : decA b = none := by
      cases h : decA b with
      | none => rfl
      | some av => rw [h] at hcb16; simp at hcb16
    refine zR <| z1 rfl (runs_buildF (cells := [_, _, _, _, _, _, _, _, _, _, _, _, _, _, _, _, _, _, _, _, _, _, _, _, _]) bz40 rfl rfl rfl rfl rfl) ?_; refine zw 0 ti40 rfl rfl hst rfl rfl rfl rfl ?_; clear hst; rintro w hst; (try simp only [sZ, sS] at hst); refine zS rfl rfl <| zM <| CW.ret <| zr <| AQ.retL (rs := [.cell 2 40, .tmp 3]) (vs := [_, _]) rfl ⟨⟨_, rfl, hst.loadN (vs := [_, _, _, _, _, _, _, _, _, _, _, _, _, _, _, _, _, _, _, _, _, _, _, _, _]) (k := 0) ag40 ti40 rfl rfl rfl⟩, rfl, trivial⟩ (by simp) ?_
    have hdn2 : decIt b = none := by unfold decIt; rw [hdn]
    exact ⟨J12, zeroIt, .slice none 0 0, hle, by rw [hdn2]; rfl, rfl, RdH.nil _, zeroIt_ok, by rw [hdn2]; rfl, hst.drop1⟩
  · have hcb16 := hc16; (try simp only [dY, dF] at hc16)
    obtain ⟨av, hda⟩ : ∃ av, decA b = some av := by
      cases h : decA b with
      | none => rw [h] at hcb16; simp at hcb16
      | some av => exact ⟨av, rfl⟩
    obtain ⟨hal, hgood⟩ := decA_facts hda; rw [hda, Option.getD_some] at hv12
    obtain ⟨A12, c12, rfl⟩ : ∃ A c, v12 = .slice A av.length c := by obtain ⟨_, _, A, c, e, _⟩ := hv12; exact ⟨A, c, e⟩
    have hro := readIt_ok hgood (by omega); refine zj <| za <| zR <| zm rfl rfl <| z1 rfl (runs_buildF (cells := [_, _, _]) bz186 rfl rfl rfl rfl rfl) <| ze rfl (runs_box rfl hst) ?_; clear hst; rintro _ w ⟨b4, rfl, hst⟩; refine zS rfl rfl <| zN <| zm rfl rfl <| zK rfl call129 rfl rfl (rd_read_spec hst hv12 hgood (by omega)) ?_; clear hst; rintro e w ⟨J22, vh, p, hJ22, rfl, hone, hvh, hst⟩; replace hv := hv.mono hJ22; replace hv12 := hv12.mono hJ22; replace hle := hle.trans hJ22; refine ⟨_, rfl, ?_⟩; refine ze rfl (runs_alloc ti40 hst) ?_; clear hst; rintro _ w ⟨b6, rfl, hst⟩; refine z0 (runs_storeW ti40 rfl rfl hst (k := 0) rfl rfl rfl (NoFz.zero _) (it_one _ hone)) ?_; clear hst; rintro w hst; (try simp only [sZ, sS] at hst); refine zM <| zk <| zR <| z1 rfl (runs_loadN (vs := [.int .i64 (readIt av).id, .int .i64 (readIt av).kind, .int .i64 (readIt av).group, .string (readIt av).name, .string (readIt av).method, .string (readIt av).url, vh, .string (readIt av).body, .int .i64 (readIt av).mode, .int .i64 (readIt av).creds, .string (readIt av).page, .string (readIt av).csp, .int .i64 (readIt av).refer, .string (readIt av).nurl, .string (readIt av).nmethod, .string (readIt av).nbody, .int .i64 (readIt av).hops, .int .i64 (readIt av).tries, .int .i64 (readIt av).til, .bool (readIt av).tainted, .string (readIt av).got, .string (readIt av).tag, .int .i64 (readIt av).state, .int .i64 (readIt av).code, .bool (readIt av).acked]) ag40 ti40 rfl hst (k := 0) rfl rfl rfl) ?_; refine zK rfl call49 rfl rfl (itenc_spec hst hvh hro) ?_; clear hst; rintro e w ⟨J25, v25, hJ25, rfl, hst, hv25⟩; replace hv := hv.mono hJ25; replace hv12 := hv12.mono hJ25; replace hvh := hvh.mono hJ25; replace hle := hle.trans hJ25; refine ⟨_, rfl, ?_⟩; refine zm rfl rfl <| zx rfl rfl rfl <| zx rfl rfl rfl <| zS rfl rfl <| zS rfl rfl <| zM <| zk <| zX Unit (fun _ w => St w0 w J25 ((b6, Obj.cells #[.int .i64 (readIt av).id, .int .i64 (readIt av).kind, .int .i64 (readIt av).group, .string (readIt av).name, .string (readIt av).method, .string (readIt av).url, vh, .string (readIt av).body, .int .i64 (readIt av).mode, .int .i64 (readIt av).creds, .string (readIt av).page, .string (readIt av).csp, .int .i64 (readIt av).refer, .string (readIt av).nurl, .string (readIt av).nmethod, .string (readIt av).nbody, .int .i64 (readIt av).hops, .int .i64 (readIt av).tries, .int .i64 (readIt av).til, .bool (readIt av).tainted, .string (readIt av).got, .string (readIt av).tag, .int .i64 (readIt av).state, .int .i64 (readIt av).code, .bool (readIt av).acked] 40) :: (b4, Obj.cells #[.slice A12 av.length c12, .int .i64 ((p : Nat) : Int), .bool (readBad av)] 186) :: (b1, (Value.agg #[.int .i64 0, .int .i64 0, .int .i64 0, .string .empty, .string .empty, .string .empty, .slice none 0 0, .string .empty, .int .i64 0, .int .i64 0, .string .empty, .string .empty, .int .i64 0, .string .empty, .string .empty, .string .empty, .int .i64 0, .int .i64 0, .int .i64 0, .bool false, .string .empty, .string .empty, .int .i64 0, .int .i64 0, .bool false]).cells |> fun cs => Obj.cells cs 40) :: L)) (fun _ => [(2, .pointer (some ⟨b1, 0, none⟩)), (7, .pointer (some ⟨b6, 0, none⟩)), (41, .bool (!(!readBad av && encOk (itAV (readIt av)) && (encA (itAV (readIt av)) == b))))]) ?_ ?_
    ·
      refine zg <| zm rfl rfl <| z1 rfl (runs_nilCheck rfl) <| zp rfl rfl U186 rfl ti4 rfl <| zl 1 rfl sc4 rfl hst rfl rfl <| zm rfl rfl <| zi (t := 32) rfl (fun hb32 => ?_) (fun hb32 => ?_)
      · have hb32p := hb32; (try simp only [dY, dF] at hb32p); refine zG rfl rfl rfl rfl rfl rfl hb32 <| zt rfl rfl hb32 rfl <| zm rfl rfl <| zH rfl rfl rfl rfl rfl rfl rfl rfl rfl <| zf rfl rfl rfl rfl rfl <| zt rfl rfl rfl rfl <| zd ?_
        exact zv () hst ⟨rfl, rfl, congrArg (fun z => some (Value.bool z)) (by
            first
              | (rw [hb32]; rfl)
              | (have ho : encOk (itAV (readIt av)) = false := by
                   cases h : encOk (itAV (readIt av)) with
                   | false => rfl
                   | true => rw [h] at hb36; simp at hb36
                 rw [ho, hb32]; rfl)
              | (have ho : encOk (itAV (readIt av)) = true := by
                   cases h : encOk (itAV (readIt av)) with
                   | true => rfl
                   | false => rw [h] at hb36; simp at hb36
                 rw [ho, hb32]; simp)), trivial⟩
      · have hb32p := hb32; (try simp only [dY, dF] at hb32p); refine zo rfl rfl rfl rfl hb32 <| zm rfl rfl <| zo rfl rfl rfl rfl hb32 <| z1 rfl (runs_neI rfl rfl) <| zn rfl rfl hb32 rfl <| zm rfl rfl <| zi (t := 36) rfl (fun hb36 => ?_) (fun hb36 => ?_)
        · have hb36p := hb36; (try simp only [dY, dF] at hb36p); refine zH rfl rfl rfl rfl rfl rfl rfl rfl hb36 <| zf rfl rfl rfl rfl hb36 <| zt rfl rfl hb36 rfl <| zd ?_
          exact zv () hst ⟨rfl, rfl, congrArg (fun z => some (Value.bool z)) (by
              first
                | (rw [hb32]; rfl)
                | (have ho : encOk (itAV (readIt av)) = false := by
                     cases h : encOk (itAV (readIt av)) with
                     | false => rfl
                     | true => rw [h] at hb36; simp at hb36
                   rw [ho, hb32]; rfl)
                | (have ho : encOk (itAV (readIt av)) = true := by
                     cases h : encOk (itAV (readIt av)) with
                     | true => rfl
                     | false => rw [h] at hb36; simp at hb36
                   rw [ho, hb32]; simp)), trivial⟩
        · have hb36p := hb36; (try simp only [dY, dF] at hb36p); refine zo rfl rfl rfl rfl hb36 <| zm rfl rfl <| zo rfl rfl rfl rfl hb36 <| zm rfl rfl <| zo rfl rfl rfl rfl hb36 <| zK rfl call113 rfl rfl (bequal_spec hst hv25 hv) ?_; clear hst; rintro e w ⟨rfl, hst⟩; refine ⟨_, rfl, ?_⟩; refine zo rfl rfl rfl rfl hb36 <| z1 rfl (runs_not rfl) <| zn rfl rfl hb36 rfl <| zd ?_
          exact zv () hst ⟨rfl, rfl, congrArg (fun z => some (Value.bool z)) (by
              first
                | (rw [hb32]; rfl)
                | (have ho : encOk (itAV (readIt av)) = false := by
                     cases h : encOk (itAV (readIt av)) with
                     | false => rfl
                     | true => rw [h] at hb36; simp at hb36
                   rw [ho, hb32]; rfl)
                | (have ho : encOk (itAV (readIt av)) = true := by
                     cases h : encOk (itAV (readIt av)) with
                     | true => rfl
                     | false => rw [h] at hb36; simp at hb36
                   rw [ho, hb32]; simp)), trivial⟩
    · clear hst; rintro _ w hst; refine za <| zb rfl (fun hc41 => ?_) (fun hc41 => ?_)
      · have hcb41 := hc41; (try simp only [dY, dF] at hc41)
        have hdn : decIt b = none := by
          rw [decIt_of hda, if_neg (by intro h; rw [h] at hcb41; cases hcb41)]
        refine zR <| z1 rfl (runs_buildF (cells := [_, _, _, _, _, _, _, _, _, _, _, _, _, _, _, _, _, _, _, _, _, _, _, _, _]) bz40 rfl rfl rfl rfl rfl) ?_; refine zw 2 ti40 rfl rfl hst rfl rfl rfl rfl ?_; clear hst; rintro w hst; (try simp only [sZ, sS] at hst); refine zS rfl rfl <| zM <| CW.ret <| zr <| AQ.retL (rs := [.cell 2 40, .tmp 3]) (vs := [_, _]) rfl ⟨⟨_, rfl, hst.loadN (vs := [_, _, _, _, _, _, _, _, _, _, _, _, _, _, _, _, _, _, _, _, _, _, _, _, _]) (k := 2) ag40 ti40 rfl rfl rfl⟩, rfl, trivial⟩ (by simp) ?_; exact ⟨J25, zeroIt, .slice none 0 0, hle, by rw [hdn]; rfl, rfl, RdH.nil _, zeroIt_ok, by rw [hdn]; rfl, hst.drop1.drop1.drop1⟩
      · have hcb41 := hc41; (try simp only [dY, dF] at hc41)
        have hdn : decIt b = some (readIt av) := by
          rw [decIt_of hda, if_pos (by simpa using hcb41)]
        refine zj <| za <| zR <| z1 rfl (runs_loadN (vs := [.int .i64 (readIt av).id, .int .i64 (readIt av).kind, .int .i64 (readIt av).group, .string (readIt av).name, .string (readIt av).method, .string (readIt av).url, vh, .string (readIt av).body, .int .i64 (readIt av).mode, .int .i64 (readIt av).creds, .string (readIt av).page, .string (readIt av).csp, .int .i64 (readIt av).refer, .string (readIt av).nurl, .string (readIt av).nmethod, .string (readIt av).nbody, .int .i64 (readIt av).hops, .int .i64 (readIt av).tries, .int .i64 (readIt av).til, .bool (readIt av).tainted, .string (readIt av).got, .string (readIt av).tag, .int .i64 (readIt av).state, .int .i64 (readIt av).code, .bool (readIt av).acked]) ag40 ti40 rfl hst (k := 0) rfl rfl rfl) ?_; refine z0 (runs_storeW ti40 rfl rfl hst (k := 2) rfl rfl rfl (NoFz.zero _) (it_one _ hone)) ?_; clear hst; rintro w hst; (try simp only [sZ, sS] at hst); refine zS rfl rfl <| zM <| CW.ret <| AQ.retL (rs := [.cell 2 40, .tmp 3]) (vs := [_, _]) rfl ⟨⟨_, rfl, hst.loadN (vs := [_, _, _, _, _, _, _, _, _, _, _, _, _, _, _, _, _, _, _, _, _, _, _, _, _]) (k := 2) ag40 ti40 rfl rfl rfl⟩, rfl, trivial⟩ (by simp) ?_; exact ⟨J25, readIt av, vh, hle, by rw [hdn]; rfl, hone, hvh, hro, by rw [hdn]; rfl, hst.drop1.drop1.drop1⟩
end Go.Proofs.YtadgbifmiooikaaGreatX
namespace Go.Proofs.YtadgbifmiooikaaGreatX
set_option linter.unusedVariables false
set_option linter.unusedSimpArgs false
open Go Go.RowKit
variable {w0 w : World} {I : Imm} {L : Own} {P : Program} {l : Env} {ty : TypeId} {N n : Nat} {ops : Array Oper} {Q : Exit → Act → World → Prop} {rest : List Oper} {ro : Option Nat}
abbrev FW (ro : Option Nat) : Fence := { fn := fun _ => True, depth := none, alive := false, round := ro }
theorem fw_depth {ro : Option Nat} {m : Prop} : (FW ro).depth.isSome = true → m := fun h => by simp [FW] at h
def RWI (ro : Option Nat) (n : Nat) (P : Program) (N : Nat) (ops : Array Oper) (Q : Exit → Act → World → Prop) (rest : List Oper) (l : Env) (w : World) : Prop := ∀ a, l.on N a → wpListIn (FW ro) n P ops Q rest a w
def CWI (ro : Option Nat) (n : Nat) (P : Program) (N : Nat) (Q : Exit → Act → World → Prop) (c : Code) (l : Env) (w : World) : Prop := ∀ a, l.on N a → c.wpIn (FW ro) n P Q a w
theorem CW.ofI {c : Code} (n : Nat) (h : CWI none n P N Q c l w) : CW P N Q c l w := fun a ha => wpIn_wide.1 (h a ha)
theorem CWI.region {id : Nat} {os : List Oper} (h : RWI ro n P N os.toArray Q os l w) : CWI ro n P N Q (.region id os.toArray false) l w := fun a ha => wpIn_region_lit (h a ha)
theorem CWI.block {id : Nat} {c : Code} (h : CWI ro n P N (Exit.inBlock id Q) c l w) : CWI ro n P N Q (.block id c) l w := fun a ha => wpIn_block (h a ha)
theorem RWI.done (h : AQ N Q .normal l w) : RWI ro n P N ops Q [] l w := fun a ha => wpListIn_nil (h a ha)
theorem RWI.op1 {d : Tmp} {o : Op} {pos : String} {after : Array Edge} {v : Value} {w' : World} (hd : Nat.blt d N = true) (hnd : ∀ c, o ≠ .defer c)
    (hr : Runs P o ty l w (.value v) w') (h : RWI ro n P N ops Q rest ((d, v) :: l) w') : RWI ro n P N ops Q (⟨some d, o, ty, pos, after, none⟩ :: rest) l w := fun a ha => by
  unfold wpListIn
  simp only [Region.wanted, if_true]
  refine ⟨fun _ _ => trivial, ?_⟩; rw [Oper.semAt_eq _ _ _ hnd, hr a.eval (fun x v => ev_on ha) (some d) pos after none]; exact h _ (Env.on_put hd ha)
theorem RWI.op0 {o : Op} {pos : String} {after : Array Edge} {w' : World} (hnd : ∀ c, o ≠ .defer c)
    (hr : Runs P o ty l w .skip w') (h : RWI ro n P N ops Q rest l w') : RWI ro n P N ops Q (⟨none, o, ty, pos, after, none⟩ :: rest) l w := fun a ha => by
  unfold wpListIn
  simp only [Region.wanted, if_true]
  refine ⟨fun _ _ => trivial, ?_⟩; rw [Oper.semAt_eq _ _ _ hnd, hr a.eval (fun x v => ev_on ha) none pos after none]; exact h _ ha
theorem RWI.opE {d : Tmp} {o : Op} {pos : String} {after : Array Edge} {Φ : Value → World → Prop} (hd : Nat.blt d N = true) (hnd : ∀ c, o ≠ .defer c)
    (hr : ∃ v w', Runs P o ty l w (.value v) w' ∧ Φ v w') (h : ∀ v w', Φ v w' → RWI ro n P N ops Q rest ((d, v) :: l) w') : RWI ro n P N ops Q (⟨some d, o, ty, pos, after, none⟩ :: rest) l w :=
  let ⟨_, _, h1, h2⟩ := hr; RWI.op1 hd hnd h1 (h _ _ h2)
theorem RWI.opE0 {o : Op} {pos : String} {after : Array Edge} {Φ : World → Prop} (hnd : ∀ c, o ≠ .defer c)
    (hr : ∃ w', Runs P o ty l w .skip w' ∧ Φ w') (h : ∀ w', Φ w' → RWI ro n P N ops Q rest l w') : RWI ro n P N ops Q (⟨none, o, ty, pos, after, none⟩ :: rest) l w :=
  let ⟨_, h1, h2⟩ := hr; RWI.op0 hnd h1 (h _ h2)
theorem RWI.yield {d : Tmp} {fo : Operand} {args : List Operand} {ats : Array TypeId} {pos : String} {after : Array Edge} {r : Nat} {vs : List Value} {R : Ending → World → Prop} (hd : Nat.blt d N = true)
    (hfo : ev l fo = some (.func (.yield r) #[] #[])) (ha : evs l args = some vs) (hy : YieldAt (FW ro) (n - 1) P r vs.toArray w R)
    (h : ∀ e w', R e w' → ∃ v, e = .returned v ∧ RWI ro n P N ops Q rest ((d, v) :: l) w') : RWI ro n P N ops Q (⟨some d, .call ⟨.value fo, args.toArray, ats⟩, ty, pos, after, none⟩ :: rest) l w := fun a hon => by
  obtain ⟨fn, tmps, assign, body, hy, hR⟩ := hy; unfold wpListIn
  simp only [Region.wanted, if_true]
  refine ⟨fun _ _ => trivial, ?_⟩; rw [Oper.semAt_eq _ _ _ (by intro c h; cases h)]
  have e : (execOp a.eval ⟨some d, .call ⟨.value fo, args.toArray, ats⟩, ty, pos, after, none⟩).run P w = .ok (.round r fn tmps assign body) w := by
    have e1 := ev_on hon hfo
    have e2 : (args.toArray.map a.eval) = vs.toArray := by rw [List.map_toArray, evs_on (fun x v => ev_on hon) ha]
    simp only [execOp, resolve, e1, e2]
    simpa [Deferred.ofValue, invoke, Sem.run, bind, Sem.bind, pure] using hy
  rw [e]; refine ⟨fw_depth, hR.mono fun e w' he => ?_⟩; obtain ⟨v, rfl, h2⟩ := h e w' he; exact h2 _ (Env.on_put hd hon)
theorem St.putHead {k : Nat} {o o' : Obj} (h : St w0 w I ((k, o) :: L)) : St w0 (w.putObj k o') I ((k, o') :: L) := by
  have hb := h.own (k, o) (List.mem_cons_self ..); exact h.put (k := 0) (b := k) (o := o) (o' := o') rfl rfl rfl rfl (World.putObj_heap_same (Array.getElem?_eq_some_iff.1 hb).1) (fun j hj _ => World.putObj_heap_other hj)
theorem enterM {f : FuncId} {fn : Func} {c : Code} {args : List Value} {R : Ending → World → Prop} (hf : P.funcs[f]? = some fn) (hb : fn.body = some c) (hN : fn.ntmps = N) (hle : Nat.ble args.length N = true)
    (h : CW P N (bodyPostM (FW none) 5 P fn R) c (args.zipIdx.map fun p => (p.2, p.1)) w) : Calls P f args.toArray w R :=
  callsIn_wide.1 (callsIn_of_wp_marks (n := 5) (F := FW none) hf hb trivial (wpIn_wide.2 (h _ (enter_on hN hle))) rfl)
theorem AQ.ret2M {fn : Func} {R : Ending → World → Prop} {t u : Tmp} {v v' : Value} (hr : fn.results = #[.tmp t, .tmp u]) (hv : l.get t = some v) (hv' : l.get u = some v') (h : R (.returned (.tuple #[v, v'])) w) :
    AQ N (bodyPostM (FW none) n P fn R) .ret l w := fun a ha => by
  show LeavesInM (FW none) n P fn a.tmps R a.defers .returning w
  rw [ha.2.1]; exact ⟨_, by rw [results_tmp2 hr, ha.2.2 t v hv, ha.2.2 u v' hv'], h⟩
def markOf (D : Nat) : List Deferred := [{ target := .collected D, args := #[] }]
theorem AQD.ret2M {fn : Func} {R : Ending → World → Prop} {t u : Tmp} {v v' : Value} {D : Nat} (hst : St w0 w I ((D, .deferred (some [])) :: L)) (hr : fn.results = #[.tmp t, .tmp u]) (hv : l.get t = some v) (hv' : l.get u = some v')
    (h : ∀ w', St w0 w' I L → R (.returned (.tuple #[v, v'])) w') : AQD N (markOf D) (bodyPostM (FW none) n P fn R) .ret l w := fun a ha => by
  show LeavesInM (FW none) n P fn a.tmps R a.defers .returning w
  rw [ha.2.1]; refine ⟨(fun h => by cases h), .inl ⟨D, _, rfl, run_takeDeferred (hst.own (D, _) (List.mem_cons_self ..)), ?_⟩⟩; exact ⟨_, by rw [results_tmp2 hr, ha.2.2 t v hv, ha.2.2 u v' hv'], h _ hst.putHead.drop1⟩
theorem AQD.block_normal {D : List Deferred} {id : Nat} (h : AQD N D Q .normal l w) : AQD N D (Exit.inBlock id Q) .normal l w := h
theorem RWD.callR {D : List Deferred} {d : Tmp} {f : FuncId} {fo : Operand} {args : List Operand} {ats : Array TypeId} {pos : String} {after : Array Edge} {vs : List Value} {R : Ending → World → Prop} (hd : Nat.blt d N = true) (hf : Callable P f)
    (hfo : ev l fo = some (.func (.func f) #[] #[])) (ha : evs l args = some vs) (hc : Calls P f vs.toArray w R) (h : ∀ e w', R e w' → ∃ v, e = .returned v ∧ RWD P N D ops Q rest ((d, v) :: l) w') :
    RWD P N D ops Q (⟨some d, .call ⟨.value fo, args.toArray, ats⟩, ty, pos, after, none⟩ :: rest) l w := RWD.call hd hf hfo ha hc fun e w' he => .inl (h e w' he)
theorem St.two {A B : Nat} {a b : Obj} (ha : w.heap[A]? = some a) (hb : w.heap[B]? = some b) (hab : A ≠ B) : St w w (fun _ => none) [(A, a), (B, b)] := by
  refine ⟨rfl, rfl, rfl, (fun b o h => by cases h), (fun p hp => ?_), (fun p hp => rfl), by simp [hab]⟩
  simp only [List.mem_cons, List.not_mem_nil, or_false] at hp
  rcases hp with rfl | rfl
  · exact ha
  · exact hb
theorem runs_slice_lhm {t e : TypeId} {x y y' y'' : Operand} {A : Option Addr} {n c : Nat} {k k' k'' : IntKind} {lo hi mx : Int} {z : Value} {size bytes : Nat} (ht : P.underlying t = some (.slice e)) (he : TI P e z size bytes) (hx : ev l x = some (.slice A n c))
    (hy : ev l y = some (.int k lo)) (hy' : ev l y' = some (.int k' hi)) (hy'' : ev l y'' = some (.int k'' mx)) (h : 0 ≤ lo ∧ lo ≤ hi ∧ hi ≤ mx ∧ mx ≤ c) : Runs P (.slice t x (some y) (some y') (some y'')) ty l w (.value (sliced A lo.toNat hi.toNat mx.toNat size)) w :=
  runs_slice ht he hx fun ρ hρ => by
    have b1 := sb_ok (P := P) w (k := k'') (i := mx) (y := c) (by omega) (by omega); have b2 := sb_ok (P := P) w (k := k') (i := hi) (y := mx.toNat) (by omega) (by omega); have b3 := sb_ok (P := P) w (k := k) (i := lo) (y := hi.toNat) (by omega) (by omega)
    simp only [hρ y _ hy, hρ y' _ hy', hρ y'' _ hy'', b1, b2, b3, Instr.sliceBounds, Sem.run_bind, pure, Sem.run, if_true, if_false, Option.isSome_none, Option.isSome_some, Bool.false_eq_true, Result.andThen, Option.map_some, Option.map_none]
theorem RdL.cut {size n c : Nat} {A : Option Addr} {xs : List Value} (h : RdL I size (.slice A n c) n xs) {lo hi : Nat} (h1 : lo ≤ hi) (h2 : hi ≤ n) : RdL I size (sliced A lo hi hi size) (hi - lo) ((xs.drop (lo * size)).take ((hi - lo) * size)) := by
  obtain ⟨h3, h0, A', cap', h4, h5, h6⟩ := h
  cases h4
  refine ⟨?_, fun u hu => h0 u (List.mem_of_mem_drop (List.mem_of_mem_take hu)), _, _, rfl, Nat.le_refl _, fun j u hj => ?_⟩
  · rw [List.length_take, List.length_drop, h3, ← Nat.sub_mul]; exact Nat.min_eq_left (Nat.mul_le_mul_right _ (by omega))
  · rw [List.getElem?_take] at hj
    split at hj
    · rename_i hlt
      rw [List.getElem?_drop] at hj; obtain ⟨a, rfl, h7⟩ := h6 _ _ hj
      by_cases hc : hi = lo
      · exfalso
        rw [hc, Nat.sub_self, Nat.zero_mul] at hlt; omega
      · refine ⟨_, by simp only [if_neg hc]; rfl, ?_⟩; rw [Addr.add_add]; exact h7
    · cases hj
def Gives {α : Type} (P : Program) (gf : FuncId) (lb : Array Value) (enc : α → Value) (Cap : World → Prop) (xs : List α) : Prop :=
  ∀ (r : Nat) (J : List α → World → Prop) (W : World), (∀ s W k, J s W → J s { W with drawn := W.drawn + k }) → (∀ s W, J s W → Cap W) →
    (∀ pre x W1, J pre W1 → (∃ t, xs = pre ++ x :: t) → YieldAt (FW none) 3 P r #[enc x] W1 fun e W' => e = .returned (.bool true) ∧ J (pre ++ [x]) W') → J [] W →
    Calls P gf (#[.func (.yield r) #[] #[]] ++ lb) W fun e W' => (∃ v, e = .returned v) ∧ J xs W'
theorem CW.rangeF {α : Type} {g : Operand} {p d : Tmp} {id : Nat} {pos : String} {after : Array Edge} {body : Code} {gf : FuncId} {lb : Array Value} {enc : α → Value} {Cap : World → Prop} {xs : List α}
    (hg : ev l g = some (.func (.func gf) #[] lb)) (hcal : Callable P gf) (hp : Nat.blt p N = true) (hd : Nat.blt d N = true) (hgive : Gives P gf lb enc Cap xs)
    (Inv : List α → Own → Prop) {Lc : Own} (h0 : Inv [] Lc) (hst : St w0 w I (Lc ++ L)) (hcap : ∀ W A, St w0 W I (A ++ L) → Cap W)
    (hbody : ∀ r pre x Lx W (A : Own), Inv pre Lx → (∃ t, xs = pre ++ x :: t) → St w0 W I (A ++ (Lx ++ L)) → CWI (some r) 3 P N (fun e _ W' => e = .normal ∧ ∃ Lx', Inv (pre ++ [x]) Lx' ∧ St w0 W' I (A ++ (Lx' ++ L))) body ((d, enc x) :: (p, enc x) :: l) W)
    (hdone : ∀ D Lx W, Inv xs Lx → St w0 W I ((D, .deferred (some [])) :: (Lx ++ L)) → AQD N (markOf D) Q .normal l W) :
    CW P N Q (.rangeFunc g #[p] (.region id #[⟨some d, .assign (.tmp p), ty, pos, after, none⟩] false) body) l w := by
  refine CW.ofI 5 fun a ha => wpIn_rangeFunc fun fn hfn => ?_
  obtain ⟨rec, hrec⟩ : ∃ rec : LoopState → Option Code → Loop, rec = fun st pe => { state := st, pending := pe, fn, tmps := a.tmps, params := #[p], assign := .region id #[⟨some d, .assign (.tmp p), ty, pos, after, none⟩] false, body, defers := w.heap.size } := ⟨_, rfl⟩
  obtain ⟨fn2, hc1, hc2, hc3⟩ := hcal
  have hst1 : St w0 ((w.alloc (.deferred (some []))).alloc (.loop (rec .ready none))) I ((w.heap.size + 1, .loop (rec .ready none)) :: (w.heap.size, .deferred (some [])) :: (Lc ++ L)) := by
    have h1 : St w0 (w.alloc (.deferred (some []))) I ((w.heap.size, .deferred (some [])) :: (Lc ++ L)) := hst.heap_new _; have h2 := h1.heap_new (.loop (rec .ready none)); rw [show (w.alloc (.deferred (some []))).heap.size = w.heap.size + 1 by simp] at h2; exact h2
  refine ⟨w.heap.size + 1, markOf w.heap.size, (w.alloc (.deferred (some []))).alloc (.loop (rec .ready none)), { target := .fn (.func gf) lb, args := #[.func (.yield (w.heap.size + 1)) #[] #[]] }, (w.alloc (.deferred (some []))).alloc (.loop (rec .ready none)), gf, #[.func (.yield (w.heap.size + 1)) #[] #[]] ++ lb, (w.alloc (.deferred (some []))).alloc (.loop (rec .ready none)), by rw [hrec]; exact run_enterLoop_outer _ _ _ _ _, ?_, fun _ _ => trivial, ?_, fw_depth, ?_⟩
  · have e1 := ev_on ha hg
    simp only [resolve, rangeCall, e1]
    simp [go_sem]
  · have h2' : ¬ fn2.name = "runtime.NumGoroutine" := by simpa using hc2
    have h3' : ¬ fn2.body = none := by intro e; simp [e] at hc3
    simp [invoke, callFunc, program, hc1, h2', h3', Sem.run, bind, Sem.bind, pure]
  · refine callsIn_wide.2 ((hgive (w.heap.size + 1) (fun pre W => ∃ Lx, Inv pre Lx ∧ St w0 W I ((w.heap.size + 1, .loop (rec .ready none)) :: (w.heap.size, .deferred (some [])) :: (Lx ++ L))) _ ?_ ?_ ?_ ⟨Lc, h0, hst1⟩).mono ?_)
    · rintro s W k ⟨Lx, h1, h2⟩; exact ⟨Lx, h1, ⟨h2.os, h2.tape, h2.out, h2.imm, h2.own, h2.sep, h2.nd⟩⟩
    · rintro s W ⟨Lx, _, h2⟩; exact hcap W ((w.heap.size + 1, .loop (rec .ready none)) :: (w.heap.size, .deferred (some [])) :: Lx) h2
    · rintro pre x W1 ⟨Lx, h1, h2⟩ hx; have hl := h2.own (w.heap.size + 1, .loop (rec .ready none)) (List.mem_cons_self ..)
      have hy : (Instr.yield (w.heap.size + 1) #[enc x]).run P W1 = .ok (.round (w.heap.size + 1) fn (a.tmps.setIfInBounds p (enc x)) (.region id #[⟨some d, .assign (.tmp p), ty, pos, after, none⟩] false) body) W1 := by
        rw [run_yield (P := P) (args := #[enc x]) hl (by rw [hrec]; rfl), hrec]
        simp
      refine ⟨_, _, _, _, hy, roundIn_of_wpIn trivial ?_⟩
      have hon : Env.on N ((p, enc x) :: l) { tmps := a.tmps.setIfInBounds p (enc x), defers := [] } := by
        have := Env.on_put (v := enc x) hp ha; exact ⟨this.1, rfl, this.2.2⟩
      refine (CWI.region (ro := some (w.heap.size + 1)) (n := 3) (os := [⟨some d, .assign (.tmp p), ty, pos, after, none⟩]) (RWI.op1 hd (by intro c h; cases h) (runs_assign (v := enc x) (by simp [ev, Env.get])) (RWI.done ?_))) _ hon; intro a1 ha1; refine ⟨_, run_beginRound hl (by rw [hrec]), ?_⟩; have h3 := h2.putHead (o' := .loop { rec .ready none with state := .busy }); refine wpIn_mono (hbody (w.heap.size + 1) pre x Lx _ [(w.heap.size + 1, .loop { rec .ready none with state := .busy }), (w.heap.size, .deferred (some []))] h1 hx h3 a1 ha1) ?_; rintro e a3 W3 ⟨rfl, Lx', h4, h5⟩; have hl3 := h5.own (w.heap.size + 1, .loop { rec .ready none with state := .busy }) (by simp); have hend := run_endRound (P := P) none hl3; refine ⟨_, _, hend, rfl, Lx', h4, ?_⟩; have h6 := St.putHead (o' := .loop (rec .ready none)) (L := (w.heap.size, .deferred (some [])) :: (Lx' ++ L)) h5; rw [hrec] at h6 ⊢; exact h6
    · rintro e W2 ⟨⟨v, rfl⟩, Lx, h1, h2⟩; have hl := h2.own (w.heap.size + 1, .loop (rec .ready none)) (List.mem_cons_self ..); have hend := run_endLoop (P := P) hl (by rw [hrec]; simp)
      have hpe : (rec .ready none).pending = none := by rw [hrec]
      rw [hpe] at hend; refine ⟨none, _, hend, ?_⟩; refine hdone w.heap.size Lx _ h1 h2.putHead.drop1 _ ⟨ha.1, ?_, ha.2.2⟩
      show markOf w.heap.size ++ a.defers = markOf w.heap.size
      rw [ha.2.1, List.append_nil]
end Go.Proofs.YtadgbifmiooikaaGreatX
namespace Go.Proofs.YtadgbifmiooikaaGreatX
set_option linter.unusedVariables false
set_option linter.unusedSimpArgs false
open Go Go.RowKit Go.Proofs
theorem Grow.one {e : TypeId} {size n : Nat} {v : Value} {xs : List Value} {Lv : Own} (h : Grow e size v n xs Lv) : v.oneCell' = true := by
  obtain ⟨_, _, ⟨rfl, _⟩ | ⟨g, cap, cur, rfl, _⟩⟩ := h <;> rfl
theorem Grow.srcR {w0 w : World} {I : Imm} {L Lv : Own} {e : TypeId} {size n : Nat} {v : Value} {xs : List Value} (hg : Grow e size v n xs Lv) (hst : St w0 w I (Lv ++ L)) : ∃ B c, v = .slice B n c ∧ ∀ j u, xs[j]? = some u → ∃ a, B = some a ∧ w.cell? (a.add j) = some u := by
  have hc := fun j u hj => Grow.cell hg hst (fun p hp => List.mem_append_left _ hp) (j := j) (u := u) hj
  obtain ⟨h1, _, ⟨rfl, rfl, rfl⟩ | ⟨g, cap, cur, rfl, rfl, _⟩⟩ := hg
  · obtain rfl : xs = [] := List.eq_nil_of_length_eq_zero (by simpa using h1); exact ⟨none, 0, rfl, fun j u hj => by simp at hj⟩
  · exact ⟨_, cap, rfl, fun j u hj => ⟨_, rfl, hc j u hj⟩⟩
def ckHi (n k : Nat) : Nat := min (200 * (k + 1)) n
def encC (A : Option Addr) (n k : Nat) : Value := sliced A (200 * k) (ckHi n k) (ckHi n k) 1
def ckL (b : List UInt8) (k : Nat) : List UInt8 := (b.drop (200 * k)).take (ckHi b.length k - 200 * k)
def ckCnt (n : Nat) : Nat := (n + 199) / 200
theorem permAB {α : Type} {X Y R : List α} : (X ++ (Y ++ R)).Perm (Y ++ (X ++ R)) := by
  rw [← List.append_assoc, ← List.append_assoc]; exact List.perm_append_comm.append_right R
theorem permC {α : Type} {X Y Q : List α} {a : α} : (X ++ a :: (Y ++ Q)).Perm (Y ++ (X ++ a :: Q)) := by
  have h2 := permAB (X := X ++ [a]) (Y := Y) (R := Q)
  simpa using h2
set_option maxRecDepth 100000 in
set_option maxHeartbeats 1000000 in
theorem chunk1_spec {w : World} (r : Nat) {A : Option Addr} {n c bA bB : Nat} (hn : n ≤ c) (hn2 : n ≤ 1000000000000) (hab : bA ≠ bB) (J : Nat → World → Prop) (hdr : ∀ k W, J k W → J k { W with drawn := W.drawn + 1 }) (hcap : ∀ k W, J k W → W.heap[bA]? = some (.cells #[.slice A n c] 52) ∧ W.heap[bB]? = some (.cells #[.int .i64 200] 3)) (hround : ∀ k W1, J k W1 → 200 * k < n → YieldAt (FW none) 3 Tryz.prog r #[encC A n k] W1 fun e W' => e = .returned (.bool true) ∧ J (k + 1) W') (h0 : J 0 w) :
    Calls Tryz.prog 77 #[.func (.yield r) #[] #[], .pointer (some ⟨bA, 0, none⟩), .pointer (some ⟨bB, 0, none⟩)] w fun e w' => (∃ v, e = .returned v) ∧ ∃ k, J k w' ∧ n ≤ 200 * k ∧ (k = 0 ∨ 200 * (k - 1) < n) := by
  have I : Imm := fun _ => none
  refine enter Tryz.func77 rfl (N := 31) rfl rfl ?_
  simp only [zA, zB, zC, zD, zE, Nat.reduceAdd]
  have hle := Imm.le.refl I; refine zR <| zS rfl rfl <| zM <| CW.block <| CW.loop Nat (fun k w => J k w ∧ (k = 0 ∨ 200 * (k - 1) < n)) (fun k => [(0, .func (.yield r) #[] #[]), (1, .pointer (some ⟨bA, 0, none⟩)), (2, .pointer (some ⟨bB, 0, none⟩)), (4, .int .i64 ((200 * k : Nat) : Int))]) (fun k => n - 200 * k) ⟨0, ⟨h0, .inl rfl⟩, ⟨rfl, rfl, rfl, rfl, trivial⟩⟩ ?_; rintro k w ⟨hJ, hk⟩; have hst := St.two (hcap k w hJ).1 (hcap k w hJ).2 hab; refine zk <| zR <| zm rfl rfl <| zl 0 rfl sc52 rfl hst rfl rfl <| z1 rfl (runs_lenL Tryz.underlying52 rfl) <| z1 rfl (runs_lss rfl rfl) <| zM <| zb rfl (fun hc9 => ?_) (fun hc9 => ?_)
  · have hcb9 := hc9; (try simp only [dY, dF] at hc9)
    have hlt : 200 * k < n := by omega
    have hhi : ckHi n k ≤ n ∧ 200 * k ≤ ckHi n k ∧ ckHi n k - 200 * k ≤ 200 ∧ (ckHi n k = 200 * (k + 1) ∨ ckHi n k = n) := by unfold ckHi; omega
    refine zj <| za <| zk <| CW.block <| zk ?_; have hJd := hdr k w hJ; refine CW.draw (fun W => St W W (fun _ => none) [(bA, Obj.cells #[.slice A n c] 52), (bB, Obj.cells #[.int .i64 200] 3)]) (.q 0 (.q 1 (.q 2 (.q 3 (.q 4 (.q 5 (.q 6 .nil))))))) follows (by kernel_rfl) (St.two (hcap k _ hJd).1 (hcap k _ hJd).2 hab) ?_; replace hst := St.two (hcap k _ hJd).1 (hcap k _ hJd).2 hab; refine DRW.q rfl rfl (fun w' hF => runs_load1 sc3 rfl (hF.cell_own (k := 1) rfl rfl)) ?_; refine DRW.q rfl rfl (fun w' hF => runs_load1 sc52 rfl (hF.cell_own (k := 0) rfl rfl)) ?_; refine ym rfl rfl rfl <| DRW.q rfl rfl (fun w' hF => runs_slice_l Tryz.underlying52 ti5 rfl rfl (by omega)) ?_; refine DRW.q rfl rfl (fun w' hF => runs_lenL Tryz.underlying52 rfl) ?_; refine DRW.q rfl rfl (fun w' hF => runs_min rfl rfl) ?_; obtain ⟨mm, hmm⟩ : ∃ mm, (if (((n - ((200 * k : Nat) : Int).toNat : Nat) : Int)) < 200 then ((n - ((200 * k : Nat) : Int).toNat : Nat) : Int) else 200) = mm := ⟨_, rfl⟩
    have hmv : mm = ((ckHi n k - 200 * k : Nat) : Int) := by rw [← hmm]; unfold ckHi; split <;> omega
    rw [hmm, hmv]; refine yS rfl rfl rfl <| DRW.done <| za <| zk <| CW.ofI 4 ?_; refine CWI.region ?_; refine RWI.op1 rfl (by intro c h; cases h) (runs_move rfl) ?_; refine RWI.op1 rfl (by intro c h; cases h) (runs_load1 sc52 rfl (hst.cell_own (k := 0) rfl rfl)) ?_; refine RWI.op1 rfl (by intro c h; cases h) (runs_move rfl) ?_; refine RWI.op1 rfl (by intro c h; cases h) (runs_move rfl) ?_; refine RWI.op1 rfl (by intro c h; cases h) (runs_move rfl) ?_; refine RWI.op1 rfl (by intro c h; cases h) (runs_add rfl rfl (by omega)) ?_; refine RWI.op1 rfl (by intro c h; cases h) (runs_move rfl) ?_; refine RWI.op1 rfl (by intro c h; cases h) (runs_move rfl) ?_; refine RWI.op1 rfl (by intro c h; cases h) (runs_add rfl rfl (by omega)) ?_; refine RWI.op1 rfl (by intro c h; cases h) (runs_slice_lhm Tryz.underlying52 ti5 rfl rfl rfl rfl (by omega)) ?_; rw [show sliced A ((200 * k : Nat) : Int).toNat (((200 * k : Nat) : Int) + ((ckHi n k - 200 * k : Nat) : Int)).toNat (((200 * k : Nat) : Int) + ((ckHi n k - 200 * k : Nat) : Int)).toNat 1 = encC A n k by unfold encC; congr 1 <;> omega]; refine RWI.yield (n := 4) rfl rfl rfl (hround k _ hJd hlt) ?_; rintro e w ⟨rfl, hJ2⟩; refine ⟨_, rfl, ?_⟩; refine RWI.op1 rfl (by intro c h; cases h) (runs_not rfl) ?_; refine RWI.done ?_; refine za <| zb rfl (fun hc => absurd hc (by decide)) (fun hc => ?_); refine zj <| zh <| za <| zg ?_; have hst := St.two (hcap _ w hJ2).1 (hcap _ w hJ2).2 hab; refine zm rfl rfl <| zl 1 rfl sc3 rfl hst rfl rfl <| z1 rfl (runs_add rfl rfl (by omega)) ?_; refine zS rfl rfl <| zd ?_; exact AQ.again (x := k) (k + 1) ⟨hJ2, .inr (by rw [Nat.add_sub_cancel]; exact hlt)⟩ ⟨rfl, rfl, rfl, congrArg (fun z => some (Value.int .i64 z)) (by omega), trivial⟩ (by omega)
  · have hcb9 := hc9; (try simp only [dY, dF] at hc9)
    have hge : n ≤ 200 * k := by omega
    refine CW.exit ?_; refine AQ.past_exit <| AQ.past_exit <| AQ.block_hit <| AQ.end0 rfl ?_; exact ⟨⟨_, rfl⟩, k, hJ, hge, hk⟩
set_option maxRecDepth 100000 in
set_option maxHeartbeats 1000000 in
theorem chunkF_spec {w0 w : World} {I : Imm} {L : Own} (hst : St w0 w I L) (A : Option Addr) (n c : Nat) :
    Calls Tryz.prog 50 #[.slice A n c, .int .i64 200] w fun e w' => ∃ bA bB, e = .returned (.func (.func 77) #[] #[.pointer (some ⟨bA, 0, none⟩), .pointer (some ⟨bB, 0, none⟩)]) ∧ St w0 w' I ((bB, .cells #[.int .i64 200] 3) :: (bA, .cells #[.slice A n c] 52) :: L) := by
  refine enter Tryz.func50 rfl (N := 9) rfl rfl ?_
  simp only [zA, zB, zC, zD, zE, Nat.reduceAdd]
  have hle := Imm.le.refl I; refine zR <| ze rfl (runs_box rfl hst) ?_; clear hst; rintro _ w ⟨b1, rfl, hst⟩; refine ze rfl (runs_box rfl hst) ?_; clear hst; rintro _ w ⟨b2, rfl, hst⟩; refine zS rfl rfl <| zM <| zk <| zR <| zl 0 rfl sc3 rfl hst rfl rfl <| z1 rfl (runs_lss rfl rfl) <| zM <| zb rfl (fun hc => absurd hc (by decide)) (fun hc => ?_); refine zj <| za <| zR <| z1 rfl (runs_makeFunc (vs := [_, _]) rfl) <| zS rfl rfl <| zM <| CW.ret <| z9 rfl rfl ?_; exact ⟨b1, b2, rfl, hst⟩
theorem ckCnt_take {n k : Nat} (hk : k < ckCnt n) : ∃ t, List.range (ckCnt n) = List.range k ++ k :: t := by
  refine ⟨(List.range (ckCnt n)).drop (k + 1), ?_⟩
  have h1 : (List.range (ckCnt n)).take k = List.range k := by rw [List.take_range, Nat.min_eq_left (by omega)]
  have h2 : (List.range (ckCnt n)).drop k = k :: (List.range (ckCnt n)).drop (k + 1) := by
    rw [List.drop_eq_getElem_cons (by rw [List.length_range]; exact hk), List.getElem_range]
  rw [← h1, ← h2, List.take_append_drop]
theorem chunk_gives {A : Option Addr} {n c bA bB : Nat} (hn : n ≤ c) (hn2 : n ≤ 1000000000000) (hab : bA ≠ bB) :
    Gives Tryz.prog 77 #[.pointer (some ⟨bA, 0, none⟩), .pointer (some ⟨bB, 0, none⟩)] (encC A n) (fun W => W.heap[bA]? = some (.cells #[.slice A n c] 52) ∧ W.heap[bB]? = some (.cells #[.int .i64 200] 3)) (List.range (ckCnt n)) := by
  intro r J W h1 h2 h3 h4
  have h := chunk1_spec (w := W) r hn hn2 hab (fun k W => J (List.range k) W) (fun k W hj => h1 _ W 1 hj) (fun k W hj => h2 _ W hj) (fun k W1 hj hlt => by
    have := h3 (List.range k) k W1 hj (ckCnt_take (by unfold ckCnt; omega)); rw [List.range_succ]
    exact this) h4
  refine Calls.mono h ?_; rintro e w' ⟨he, k, hj, h5, h6⟩
  have hk : k = ckCnt n := by unfold ckCnt; omega
  rw [hk] at hj; exact ⟨he, hj⟩
theorem RdB.ck {I : Imm} {A : Option Addr} {c : Nat} {b : List UInt8} (h : RdB I (.slice A b.length c) b) {k : Nat} (hk : k < ckCnt b.length) : RdB I (encC A b.length k) (ckL b k) := by
  have hh : ckHi b.length k ≤ b.length ∧ 200 * k ≤ ckHi b.length k := by unfold ckHi ckCnt at *; omega
  have h1 := RdL.cut h hh.2 hh.1; unfold RdB encC ckL
  have hl : ((b.drop (200 * k)).take (ckHi b.length k - 200 * k)).length = ckHi b.length k - 200 * k := by rw [List.length_take, List.length_drop]; omega
  rw [hl, List.map_take, List.map_drop]
  simpa using h1
def putS : ByteArray := ⟨#[112, 117, 116]⟩
def recAV (b : List UInt8) (n : Nat) : List AV := .txt putS :: (List.range n).map fun k => .txt (strOf (ckL b k))
def recB (it : It) : List UInt8 := encA (recAV (encA (itAV it)) (ckCnt (encA (itAV it)).length))
theorem ckL_len (b : List UInt8) (k : Nat) : (ckL b k).length ≤ 200 := by
  unfold ckL ckHi; rw [List.length_take, List.length_drop]; omega
theorem recAV_good (b : List UInt8) (n : Nat) : ∀ a ∈ recAV b n, a.good 255 false := by
  intro a ha; unfold recAV at ha
  rcases List.mem_cons.1 ha with rfl | ha
  · exact (by decide : putS.size ≤ 255)
  · obtain ⟨k, _, rfl⟩ := List.mem_map.1 ha
    show (strOf (ckL b k)).size ≤ 255
    rw [strOf_size]; have := ckL_len b k; omega
theorem recAV_len (b : List UInt8) (n : Nat) : (recAV b n).length = n + 1 := by simp [recAV]
theorem encA_len_le {av : List AV} (h : encOk av = true) : (encA av).length ≤ av.length * 257 := encA_le h
set_option maxRecDepth 100000 in
set_option maxHeartbeats 4000000 in
theorem putrec_spec {w0 w : World} {I : Imm} {L : Own} (hst : St w0 w I L) {it : It} {vh : Value} (hv : RdH I vh it.heads) (hok : ItOk it) :
    Calls Tryz.prog 29 #[itv it vh] w fun e w' => ∃ I' v', I.le I' ∧ e = .returned (.tuple #[v', .int .i64 (if encOk (itAV it) then 0 else 1)]) ∧ St w0 w' I' L ∧ RdB I' v' (if encOk (itAV it) then recB it else []) := by
  obtain ⟨A0, c0, rfl⟩ : ∃ A c, vh = .slice A it.heads.length c := by obtain ⟨_, _, A, c, e, _⟩ := hv; exact ⟨A, c, e⟩
  refine enterM Tryz.func29 rfl (N := 31) rfl rfl ?_
  simp only [zA, zB, zC, zD, zE, Nat.reduceAdd]
  have hle := Imm.le.refl I; refine zR <| ze rfl (runs_box rfl hst) ?_; clear hst; rintro _ w ⟨b1, rfl, hst⟩; refine zS rfl rfl <| zS rfl rfl <| zN <| z1 rfl (runs_loadN (vs := _) ag40 ti40 rfl hst (k := 0) rfl rfl rfl) ?_; refine zK rfl call49 rfl rfl (itenc_spec hst hv hok) ?_; clear hst; rintro e w ⟨J10, v10, hJ10, rfl, hst, hv10⟩; replace hv := hv.mono hJ10; replace hle := hle.trans hJ10; refine ⟨_, rfl, ?_⟩; refine zm rfl rfl <| zx rfl rfl rfl <| zx rfl rfl rfl <| zS rfl rfl <| zS rfl rfl <| zM <| zk <| zR <| zm rfl rfl <| z1 rfl (runs_neI rfl rfl) ?_; refine zM ?_; refine zb rfl (fun hc14 => ?_) (fun hc14 => ?_)
  · have hcb14 := hc14; (try simp only [dY, dF] at hc14)
    have ho : encOk (itAV it) = false := by
      cases h : encOk (itAV it) with
      | false => rfl
      | true => rw [h] at hcb14; simp at hcb14
    refine zR <| zm rfl rfl <| zS rfl rfl <| zS rfl rfl <| zM <| CW.ret <| zr <| AQ.ret2M rfl rfl rfl ?_; rw [ho]; exact ⟨J10, _, hle, rfl, hst.drop1, by rw [if_neg Bool.false_ne_true]; exact RdL.nil 1⟩
  · have hcb14 := hc14; (try simp only [dY, dF] at hc14)
    have ho : encOk (itAV it) = true := by
      cases h : encOk (itAV it) with
      | true => rfl
      | false => rw [h] at hcb14; simp at hcb14
    rw [ho, if_pos rfl] at hv10; obtain ⟨bb, hbb⟩ : ∃ b, encA (itAV it) = b := ⟨_, rfl⟩; have hbl := encA_len_le ho; have hal := itAV_len it; have hhl := hok.len; rw [hbb] at hv10 hbl
    have hb12 : bb.length ≤ 1000000000000 := by omega
    obtain ⟨A, c, rfl⟩ : ∃ A c, v10 = .slice A bb.length c := by obtain ⟨_, _, A, c, e, _⟩ := hv10; exact ⟨A, c, e⟩
    have hnc : bb.length ≤ c := by obtain ⟨_, _, A2, c2, e, hle2, _⟩ := hv10; cases e; exact hle2
    obtain ⟨o1, ho1⟩ : ∃ o, St w0 w J10 ((b1, o) :: L) := ⟨_, hst⟩; clear hst; have hst := ho1; clear ho1; refine zj <| za <| zR <| z1 rfl (runs_makeIface con9 rfl) <| ze rfl (runs_lit1 (xs := [AV.txt putS].map AV.v) Tryz.underlying95 ti20 (by decide) rfl rfl rfl (by simp [AV.v, Value.oneCell']) hst) ?_; clear hst; rintro v17 w ⟨Lv17, hst, hgv⟩; have hgo := Grow.one hgv; refine ze rfl (runs_alloc ti95 hst) ?_; clear hst; rintro _ w ⟨b4, rfl, hst⟩; refine z0 (runs_store1P ti95 rfl rfl hst (k := 0) rfl rfl (NoFz.zero _) hgo) ?_; clear hst; rintro w hst; (try simp only [sZ, sS] at hst); refine zM <| zk <| zR <| zm rfl rfl <| zK rfl call50 rfl rfl (chunkF_spec hst A bb.length c) ?_; clear hst; rintro e w ⟨bA, bB, rfl, hst⟩
    have hab : bA ≠ bB := by
      have := hst.nd
      simp only [List.map_cons, List.nodup_cons, List.mem_cons, not_or] at this
      exact fun e => this.1.1 e.symm
    refine ⟨_, rfl, ?_⟩; refine zM <| CW.block <| CW.rangeF (α := Nat) (enc := encC A bb.length) (xs := List.range (ckCnt bb.length)) (I := J10) (L := (bB, Obj.cells #[.int .i64 200] 3) :: (bA, Obj.cells #[.slice A bb.length c] 52) :: (b1, o1) :: L) (Lc := (b4, Obj.cells #[v17] 95) :: Lv17) rfl call77 rfl rfl (chunk_gives hnc hb12 hab) (fun pre Lx => ∃ v Lv, Lx = (b4, Obj.cells #[v] 95) :: Lv ∧ GrowA v (.txt putS :: pre.map fun k => .txt (strOf (ckL bb k))) Lv) ⟨v17, Lv17, rfl, hgv⟩ (hst.perm (permAB (X := [(bB, _), (bA, _)]) (Y := (b4, _) :: Lv17) (R := (b1, o1) :: L))) (fun W A2 h => ⟨h.own (bA, _) (by simp), h.own (bB, _) (by simp)⟩) ?_ ?_
    · clear hst hgv; rintro r pre k Lx W A2 ⟨v, Lv, rfl, hg⟩ ⟨t, ht⟩ hst; have hk : k < ckCnt bb.length := List.mem_range.1 (by rw [ht]; simp); have hck := RdB.ck hv10 hk; have hpl := congrArg List.length ht; rw [List.length_range, List.length_append, List.length_cons] at hpl
      have hcc : ckCnt bb.length ≤ 6000000000 := by unfold ckCnt; omega
      have hgl : (AV.txt putS :: pre.map fun k => AV.txt (strOf (ckL bb k))).length = pre.length + 1 := by simp
      replace hst := hst.perm (permAB (X := A2) (Y := (b4, _) :: Lv)); replace hst : St w0 W J10 ((b4, Obj.cells #[v] 95) :: (Lv ++ (A2 ++ ((bB, Obj.cells #[.int .i64 200] 3) :: (bA, Obj.cells #[.slice A bb.length c] 52) :: (b1, o1) :: L)))) := hst; refine CWI.block ?_; refine CWI.region ?_; refine RWI.op1 rfl (by intro c h; cases h) (runs_load1 sc95 rfl (hst.cell_own (k := 0) rfl rfl)) ?_; refine RWI.op1 rfl (by intro c h; cases h) (runs_move rfl) ?_; refine RWI.op1 rfl (by intro c h; cases h) (RdB.string Tryz.underlying52 Tryz.underlying5 Tryz.underlying9 rfl hck hst) ?_; refine RWI.op1 rfl (by intro c h; cases h) (runs_makeIface con9 rfl) ?_; refine RWI.opE rfl (by intro c h; cases h) (runs_lit1 (xs := [AV.txt (strOf (ckL bb k))].map AV.v) Tryz.underlying95 ti20 (by decide) rfl rfl rfl (by simp [AV.v, Value.oneCell']) hst) ?_; clear hst; rintro u7 w ⟨Lv7, hst, hg7⟩; obtain ⟨B25, c25, rfl, hs25⟩ := Grow.srcR hg7 hst; replace hst := hst.perm permC; refine RWI.opE rfl (by intro c h; cases h) (runs_appendG Tryz.underlying95 ti20 rfl (by decide) rfl rfl hst hg rfl hs25 (by simp [AV.v, Value.oneCell']) (by omega) (by unfold maxLen; omega)) ?_; clear hst; rintro uN w ⟨LvN, hst, hgN⟩; have hgo := Grow.one hgN; replace hst := (hst.sub (List.Sublist.append (List.Sublist.refl _) (List.sublist_append_right _ _))).perm List.perm_middle; refine RWI.opE0 (by intro c h; cases h) (runs_store1P ti95 rfl rfl hst (k := 0) rfl rfl (NoFz.zero _) hgo) ?_; clear hst; rintro w hst; (try simp only [sZ, sS] at hst); refine RWI.done ?_; refine zh ?_
      exact fun a ha => ⟨rfl, (b4, _) :: LvN, ⟨uN, LvN, rfl, by rw [List.map_append, ← List.cons_append]; exact GrowA.push hgN⟩, hst.perm (permAB (X := (b4, _) :: LvN) (Y := A2))⟩
    · clear hst hgv; rintro D Lx w ⟨v, Lv, rfl, hg⟩ hst; refine AQD.block_normal ?_; refine AQD.next ?_; refine CWD.seq ?_; refine CWD.region ?_; refine RWD.op1 rfl (runs_load1 sc95 rfl (hst.cell_own (k := 1) rfl rfl)) ?_; obtain ⟨J28, hJ28, hstn, hall⟩ := hg.freeze (hst.perm (permAB (X := [(D, _), (b4, _)]) (Y := Lv))); clear hst; have hst := hstn; clear hstn; have hall2 : RdA J28 v (recAV bb (ckCnt bb.length)) := hall; refine RWD.callR rfl call51 rfl rfl (enc_spec hst hall2 (recAV_good _ _) (by rw [recAV_len]; unfold ckCnt; omega)) ?_; clear hst; rintro e w ⟨J29, v28, hJ29, rfl, hst, hv28⟩; rw [good_encOk (recAV_good _ _) (Nat.le_refl _)] at hv28 ⊢; refine ⟨_, rfl, ?_⟩; refine RWD.op1 rfl (runs_extract rfl rfl) ?_; refine RWD.op1 rfl (runs_extract rfl rfl) ?_; refine RWD.op1 rfl (runs_assign rfl) ?_; refine RWD.op1 rfl (runs_assign rfl) ?_; refine RWD.done ?_; refine AQD.next ?_; refine CWD.ret ?_; refine AQD.ret2M hst rfl rfl rfl ?_; intro w' hst'; rw [ho]; refine ⟨J29, v28, hle.trans (hJ28.trans hJ29), rfl, hst'.drop1.drop1.drop1.drop1, ?_⟩; rw [if_pos rfl]; rw [if_pos rfl] at hv28; unfold recB; rw [hbb]; exact hv28
def txtL (a : AV) : List UInt8 := (txtOf a).toList
def allB (av : List AV) : List UInt8 := (av.drop 1).flatMap txtL
def putOk (av : List AV) (b : List UInt8) : Option It := match decIt (allB av) with
  | some it => if recB it = b then some it else none
  | none => none
theorem allB_take {av : List AV} {k : Nat} (hk : 1 ≤ k) (h : k < av.length) : ((av.drop 1).take (k + 1 - 1)).flatMap txtL = ((av.drop 1).take (k - 1)).flatMap txtL ++ txtL av[k] := by
  obtain ⟨j, rfl⟩ : ∃ j, k = j + 1 := ⟨k - 1, by omega⟩; rw [show j + 1 + 1 - 1 = j + 1 by omega, show j + 1 - 1 = j by omega, List.take_add_one, List.getElem?_drop, show 1 + j = j + 1 by omega, List.getElem?_eq_getElem h, List.flatMap_append]
  simp
theorem flat_part {α : Type} (f : α → List UInt8) (l : List α) (k : Nat) : ((l.take k).flatMap f).length ≤ (l.flatMap f).length := by
  have : l.flatMap f = (l.take k).flatMap f ++ (l.drop k).flatMap f := by rw [← List.flatMap_append, List.take_append_drop]
  rw [this, List.length_append]; omega
theorem decF_txt : ∀ (n : Nat) (b : List UInt8) (av : List AV), decF n b = some av → (av.flatMap txtL).length ≤ b.length
  | 0, b, av, h => by
    unfold decF at h
    split at h
    · cases h; simp
    · cases h
  | n + 1, b, av, h => by
    unfold decF at h
    split at h
    · cases h; simp
    · rename_i hb
      cases hd : dec1 b with
      | none => rw [hd] at h; cases h
      | some x =>
        obtain ⟨a, k⟩ := x; rw [hd] at h; dsimp only at h; obtain ⟨r, hr, rfl⟩ := Option.map_eq_some_iff.1 h; have ih := decF_txt n _ r hr; have hpos : 0 < b.length := List.length_pos_iff.2 hb; have hk := dec1_le hpos hd
        have ha : (txtL a).length ≤ k := by
          unfold dec1 at hd; have := bat_lt b 1
          split at hd
          · cases hd; rw [show ∀ t, txtL (AV.flg t) = [] from fun t => by unfold txtL txtOf; rw [ByteArray.toList_eq]]; exact Nat.zero_le _
          · split at hd
            · cases hd; rw [show ∀ n, txtL (AV.num n) = [] from fun n => by unfold txtL txtOf; rw [ByteArray.toList_eq]]; exact Nat.zero_le _
            · split at hd
              · cases hd
                show ((strOf _).toList).length ≤ _
                rw [strOf_toList, List.length_take]; omega
              · cases hd
        rw [List.length_drop] at ih; rw [List.flatMap_cons, List.length_append]; omega
theorem allB_le {b : List UInt8} {av : List AV} (h : decA b = some av) : (allB av).length ≤ b.length := by
  have h1 := decF_txt _ _ _ h; unfold allB
  have : av.flatMap txtL = (av.take 1).flatMap txtL ++ (av.drop 1).flatMap txtL := by rw [← List.flatMap_append, List.take_append_drop]
  rw [this, List.length_append] at h1; omega
set_option maxRecDepth 100000 in
set_option maxHeartbeats 4000000 in
theorem putting_spec {w0 w : World} {I : Imm} {L : Own} (hst : St w0 w I L) {v vb : Value} {av : List AV} {b : List UInt8} {m : Nat} {o : Bool} (hv : RdA I v av) (hgood : ∀ a ∈ av, a.good m o) (hvb : RdB I vb b) (hlen : av.length ≤ 100000000) (hall : (allB av).length ≤ 100000000) :
    Calls Tryz.prog 74 #[v, vb] w fun e w' => ∃ I' it vh, I.le I' ∧ e = .returned (.tuple #[itv it vh, .bool (putOk av b).isSome]) ∧ vh.oneCell' = true ∧ RdH I' vh it.heads ∧ ItOk it ∧ (∀ it', putOk av b = some it' → it = it') ∧ St w0 w' I' L := by
  refine enter Tryz.func74 rfl (N := 47) rfl rfl ?_
  simp only [zA, zB, zC, zD, zE, Nat.reduceAdd]
  have hle := Imm.le.refl I; refine zR <| ze rfl (runs_alloc ti40 hst) ?_; clear hst; rintro _ w ⟨b1, rfl, hst⟩; refine zS rfl rfl <| zN <| zS rfl rfl <| zM <| zk <| zR ?_; obtain ⟨o1, ho1⟩ : ∃ o, St w0 w I ((b1, o) :: L) ∧ o = Obj.cells (itv zeroIt (.slice none 0 0)).cells 40 := ⟨_, hst, rfl⟩; obtain ⟨ho1, hob⟩ := ho1; clear hst; refine zS rfl rfl <| zM <| CW.block <| CW.loop (Nat × Value × Own) (fun x w => St w0 w I (x.2.2 ++ ((b1, o1) :: L)) ∧ GrowB 5 x.2.1 (((av.drop 1).take (x.1 - 1)).flatMap txtL) x.2.2 ∧ 1 ≤ x.1 ∧ (x.1 ≤ av.length ∨ x.1 = 1)) (fun x => [(0, v), (1, vb), (4, .pointer (some ⟨b1, 0, none⟩)), (6, x.2.1), (7, .int .i64 (x.1 : Int))]) (fun x => av.length + 1 - x.1) ⟨(1, _, []), ⟨ho1, GrowB.nil _, Nat.le_refl _, .inr rfl⟩, ⟨rfl, rfl, rfl, rfl, rfl, trivial⟩⟩ ?_; clear ho1; rintro ⟨k, vo, Lo⟩ w ⟨hst, hg, hk1, hk2⟩; dsimp only at hst hg hk1 hk2 ⊢; refine zk <| zR <| zm rfl rfl <| zm rfl rfl <| z1 rfl (RdL.len Tryz.underlying95 rfl hv) <| z1 rfl (runs_lss rfl rfl) <| zM <| zb rfl (fun hc17 => ?_) (fun hc17 => ?_)
  · have hcb17 := hc17; (try simp only [dY, dF] at hc17)
    have hk : k < av.length := by omega
    have hst5 := allB_take hk1 hk; have hp1 := flat_part txtL (av.drop 1) (k - 1); have hp2 := flat_part txtL (av.drop 1) (k + 1 - 1); rw [hst5, List.length_append] at hp2; have hall2 : ((av.drop 1).flatMap txtL).length ≤ 100000000 := hall
    have hsz : (txtOf (atA av (k : Int))).size = (txtL av[k]).length := by unfold txtL; rw [size_toList, atA_nat hk]
    have hat := atA_nat hk; refine zj <| za <| zk <| CW.block <| zR <| zm rfl rfl <| zm rfl rfl <| zK rfl call72 rfl rfl (text__spec hst hv hgood (k : Int)) ?_; clear hst; rintro e w ⟨rfl, hst⟩; have has := as_txt (atA_good hgood (k : Int)); rw [has.1, has.2]; refine ⟨_, rfl, ?_⟩; refine zm rfl rfl <| zx rfl rfl rfl <| zx rfl rfl rfl <| zS rfl rfl <| zS rfl rfl <| zM <| zg <| zm rfl rfl <| zm rfl rfl <| ze rfl (runs_appendS Tryz.underlying52 ti5 Tryz.underlying9 rfl rfl hst hg (by omega)) ?_; clear hst; rintro uN w ⟨LvN, hst, hgN⟩; refine zS rfl rfl <| zd <| zh <| za <| zg <| zm rfl rfl <| z1 rfl (runs_add rfl rfl (by omega)) ?_; refine zS rfl rfl <| zd ?_; exact AQ.again (x := (k, vo, Lo)) (k + 1, uN, LvN) ⟨hst, by dsimp only; rw [hst5]; unfold txtL; rw [← hat]; exact hgN, by dsimp only; omega, .inl (by dsimp only; omega)⟩ ⟨rfl, rfl, rfl, rfl, rfl, trivial⟩ (by dsimp only; omega)
  · have hcb17 := hc17; (try simp only [dY, dF] at hc17); refine CW.exit ?_; refine AQ.past_exit <| AQ.past_exit <| AQ.block_hit <| za <| zR ?_
    have hfin : ((av.drop 1).take (k - 1)).flatMap txtL = allB av := by
      unfold allB; rw [List.take_of_length_le (by rw [List.length_drop]; omega)]
    rw [hfin] at hg; obtain ⟨J7, hJ7, hst7, hva⟩ := GrowB.freeze hg hst; clear hst; have hst := hst7; clear hst7; replace hv : RdA J7 v av := RdL.mono hJ7 hv; replace hvb : RdB J7 vb b := RdL.mono hJ7 hvb; replace hle := hle.trans hJ7; refine zm rfl rfl <| zK rfl call117 rfl rfl (itdec_spec hst hva hall) ?_; clear hst; rintro e w ⟨J31, it, vh, hJ31, rfl, hone, hvh, hok, hit, hst⟩; replace hvb := hvb.mono hJ31; replace hle := hle.trans hJ31; refine ⟨_, rfl, ?_⟩; refine zm rfl rfl <| zx rfl rfl rfl <| zx rfl rfl rfl <| ze rfl (runs_alloc ti40 hst) ?_; clear hst; rintro _ w ⟨b5, rfl, hst⟩; refine z0 (runs_storeW ti40 rfl rfl hst (k := 0) rfl rfl rfl (NoFz.zero _) (it_one _ hone)) ?_; clear hst; rintro w hst; (try simp only [sZ, sS] at hst); refine zS rfl rfl <| zN <| z1 rfl (runs_loadN (vs := (itC (it) vh)) ag40 ti40 rfl hst (k := 0) rfl rfl rfl) ?_; refine zK rfl call29 rfl rfl (putrec_spec hst hvh hok) ?_; clear hst; rintro e w ⟨J36, v36, hJ36, rfl, hst, hv36⟩; replace hvb := hvb.mono hJ36; replace hvh := hvh.mono hJ36; replace hle := hle.trans hJ36; refine ⟨_, rfl, ?_⟩; refine zm rfl rfl <| zx rfl rfl rfl <| zx rfl rfl rfl <| zS rfl rfl <| zS rfl rfl <| zM <| zk ?_; subst hob; refine CW.draw (FSt w0 J36 ((_, Obj.cells (itC (it) vh).toArray 40) :: L)) (.q 0 (.q 1 (.q 2 (.q 3 (.q 4 (.q 5 (.l 6 (.q 7 (.l 8 (.q 9 .nil)))))))))) follows (by kernel_rfl) ⟨_, Imm.le.refl _, hst.draw.sub ((List.sublist_cons_self _ _).cons_cons _)⟩ ?_; replace hst := hst.draw; refine DRW.q rfl rfl (FSt.loadN (vs := (itC (it) vh)) ag40 ti40 rfl (k := 0) rfl rfl rfl) ?_; refine ym rfl rfl rfl <| DRW.q rfl rfl (fun w' hF => runs_eqI rfl rfl) ?_; refine ym rfl rfl rfl <| DRW.split (t := 42) rfl (fun hb42 => ?_) (fun hb42 => ?_)
    · have hb42p := hb42; (try simp only [dY, dF] at hb42p); refine DRW.q_on rfl rfl rfl rfl hb42 rfl (fun w' hF => runs_move rfl) ?_; refine DRW.q_on rfl rfl rfl rfl hb42 rfl (fun w' hF => runs_move rfl) ?_; refine DRW.call_on rfl rfl rfl rfl hb42 rfl call113 rfl rfl (bequal_spec hst hv36 hvb) ?_; clear hst; rintro e w ⟨rfl, hst⟩; refine ⟨_, rfl, FSt.of hst (Imm.le.refl _) ((List.sublist_cons_self _ _).cons_cons _), ?_⟩; refine DRW.q rfl rfl (fun w' hF => runs_pick_true rfl hb42 rfl) ?_; refine y0 rfl (runs_storeW ti40 rfl rfl hst (k := 1) rfl rfl rfl (NoFz.zero _) (it_one _ hone)) ?_; clear hst; rintro w hst; (try simp only [sZ, sS] at hst); refine ⟨FSt.of hst (Imm.le.refl _) ((List.sublist_cons_self _ _).cons_cons _), ?_⟩; refine yS rfl rfl rfl <| DRW.done <| za <| CW.ret <| AQ.retL (rs := [.cell 4 40, .tmp 5]) (vs := [_, _]) rfl ⟨⟨_, rfl, hst.loadN (vs := [_, _, _, _, _, _, _, _, _, _, _, _, _, _, _, _, _, _, _, _, _, _, _, _, _]) (k := 1) ag40 ti40 rfl rfl rfl⟩, rfl, trivial⟩ (by simp) ?_
      obtain ⟨it2, hd2⟩ : ∃ x, decIt (allB av) = some x := by
        cases h : decIt (allB av) with
        | none => rw [h] at hb42; simp at hb42
        | some x => exact ⟨x, rfl⟩
      rw [hd2] at hit; obtain rfl : it = it2 := hit
      have hpo : putOk av b = if recB it = b then some it else none := by unfold putOk; rw [hd2]
      refine ⟨J36, it, vh, hle, ?_, hone, hvh, hok, fun it' h => ?_, hst.drop1.drop1⟩
      · rw [hpo, if_pos (decIt_eq hd2).1]
        by_cases h : recB it = b
        · rw [if_pos h, h]; simp
        · rw [if_neg h]; simp [h]
      · rw [hpo] at h
        split at h
        · exact Option.some.inj h
        · cases h
    · have hb42p := hb42; (try simp only [dY, dF] at hb42p); refine DRW.q_off rfl rfl rfl rfl hb42 rfl ?_; refine DRW.q_off rfl rfl rfl rfl hb42 rfl ?_; refine DRW.l_off rfl rfl rfl rfl hb42 rfl ?_; refine DRW.q rfl rfl (fun w' hF => runs_pick_false rfl hb42 rfl) ?_; refine y0 rfl (runs_storeW ti40 rfl rfl hst (k := 1) rfl rfl rfl (NoFz.zero _) (it_one _ hone)) ?_; clear hst; rintro w hst; (try simp only [sZ, sS] at hst); refine ⟨FSt.of hst (Imm.le.refl _) ((List.sublist_cons_self _ _).cons_cons _), ?_⟩; refine yS rfl rfl rfl <| DRW.done <| za <| CW.ret <| AQ.retL (rs := [.cell 4 40, .tmp 5]) (vs := [_, _]) rfl ⟨⟨_, rfl, hst.loadN (vs := [_, _, _, _, _, _, _, _, _, _, _, _, _, _, _, _, _, _, _, _, _, _, _, _, _]) (k := 1) ag40 ti40 rfl rfl rfl⟩, rfl, trivial⟩ (by simp) ?_
      have hd2 : decIt (allB av) = none := by
        cases h : decIt (allB av) with
        | none => rfl
        | some x => rw [h] at hb42; simp at hb42
      have hpo : putOk av b = none := by unfold putOk; rw [hd2]
      exact ⟨J36, it, vh, hle, by rw [hpo]; rfl, hone, hvh, hok, (fun it' h => by rw [hpo] at h; cases h), hst.drop1.drop1⟩
def putL : List UInt8 := [112, 117, 116]
def dropL : List UInt8 := [100, 114, 111, 112]
def nextL : List UInt8 := [110, 101, 120, 116]
def wordOf (av : List AV) : List UInt8 := (txtOf (atA av 0)).toList
def Ap (b : List UInt8) (rows : List TRow) (next : Int) (err : Int) (rows' : List TRow) (next' : Int) : Prop :=
  if wordOf ((decA b).getD []) = putL then match putOk ((decA b).getD []) b with
    | some it => err = 0 ∧ (∃ v, rows' = pput rows it.id (it, v)) ∧ next' = nextR next it.id
    | none => err = 2 ∧ rows' = rows ∧ next' = next
  else if isNum (atA ((decA b).getD []) 1) = true ∧ ((decA b).getD []).length = 2 then
    if wordOf ((decA b).getD []) = dropL then err = 0 ∧ rows' = pdel rows (numOf (atA ((decA b).getD []) 1)) ∧ next' = next
    else if wordOf ((decA b).getD []) = nextL then err = 0 ∧ rows' = rows ∧ next' = (if numOf (atA ((decA b).getD []) 1) > next then numOf (atA ((decA b).getD []) 1) else next)
    else err = 2 ∧ rows' = rows ∧ next' = next
  else err = 2 ∧ rows' = rows ∧ next' = next
theorem litLB (l : List UInt8) : (ByteArray.mk l.toArray).toList = l := by rw [ByteArray.toList_eq]
set_option maxRecDepth 100000 in
set_option maxHeartbeats 4000000 in
theorem apply_spec {w0 w : World} {I : Imm} {L : Own} {rows : List TRow} {next : Int} {bT : Nat} {Lt : Own} (hd : TbO I rows next bT Lt) (hst : St w0 w I (Lt ++ L)) {v : Value} {b : List UInt8} (hv : RdB I v b) (hlen : b.length ≤ 100000000) :
    Calls Tryz.prog 48 #[.pointer (some ⟨bT, 0, none⟩), v] w fun e w' => ∃ I' rows' next' Lt' err, I.le I' ∧ e = .returned (.int .i64 err) ∧ St w0 w' I' (Lt' ++ L) ∧ TbO I' rows' next' bT Lt' ∧ Ap b rows next err rows' next' := by
  refine enter Tryz.func48 rfl (N := 68) rfl rfl ?_
  simp only [zA, zB, zC, zD, zE, Nat.reduceAdd]
  have hle := Imm.le.refl I; refine zR <| zS rfl rfl <| zN <| zm rfl rfl <| zK rfl call71 rfl rfl (dec_spec hst hv hlen) ?_; clear hst; rintro e w ⟨J15, v15, hJ15, rfl, hst, hv15⟩; obtain ⟨av, hav⟩ : ∃ av, (decA b).getD [] = av := ⟨_, rfl⟩; rw [hav] at hv15
  have hgood : ∀ a ∈ av, a.good 255 false := by
    rw [← hav]
    cases h : decA b with
    | none => simp
    | some x => exact (decA_facts h).2
  have hal : av.length ≤ b.length := by
    rw [← hav]
    cases h : decA b with
    | none => simp
    | some x => exact (decA_facts h).1
  replace hv := hv.mono hJ15; replace hd := hd.mono hJ15; replace hle := hle.trans hJ15; refine ⟨_, rfl, ?_⟩; refine zm rfl rfl <| zx rfl rfl rfl <| zx rfl rfl rfl <| zS rfl rfl <| zS rfl rfl <| zN <| zm rfl rfl <| zK rfl call72 rfl rfl (text__spec hst hv15 hgood 0) ?_; clear hst; rintro e w ⟨rfl, hst⟩; have has := as_txt (atA_good hgood 0); rw [has.1, has.2]; obtain ⟨wd, hwd⟩ : ∃ x, txtOf (atA av 0) = x := ⟨_, rfl⟩; obtain ⟨wb, hwb⟩ : ∃ x, isTxt (atA av 0) = x := ⟨_, rfl⟩; rw [hwd, hwb]
  have hwl : wordOf av = wd.toList := by unfold wordOf; rw [hwd]
  refine ⟨_, rfl, ?_⟩; refine zm rfl rfl <| zx rfl rfl rfl <| zx rfl rfl rfl <| zS rfl rfl <| zS rfl rfl <| zN <| zm rfl rfl <| zK rfl call73 rfl rfl (int_spec hst hv15 hgood 1) ?_; clear hst; rintro e w ⟨rfl, hst⟩; have has1 := as_num (atA_good hgood 1); rw [has1.1, has1.2]; obtain ⟨nn, hnn⟩ : ∃ x, numOf (atA av 1) = x := ⟨_, rfl⟩; obtain ⟨nb, hnb⟩ : ∃ x, isNum (atA av 1) = x := ⟨_, rfl⟩
  have hnok : i64ok nn := by rw [← hnn]; exact numOf_ok (atA_good hgood 1)
  rw [hnn, hnb]; refine ⟨_, rfl, ?_⟩; refine zm rfl rfl <| zx rfl rfl rfl <| zx rfl rfl rfl <| zS rfl rfl <| zS rfl rfl <| zM <| zk <| CW.block <| zR <| zm rfl rfl ?_; refine z1 rfl (runs_eqS rfl rfl) <| zS rfl rfl <| zM ?_; refine zb rfl (fun hc28 => ?_) (fun hc28 => ?_)
  · have hcb28 := hc28; (try simp only [dY, dF] at hc28)
    have h28 : wordOf av = putL := by
      rw [hwl]; have := hcb28; rw [show (ByteArray.mk #[112, 117, 116]).toList = putL from litLB _] at this; exact beq_iff_eq.1 this
    obtain ⟨av1, hav1⟩ : ∃ x, decA b = some x := by
      cases h : decA b with
      | none =>
        rw [h] at hav; have hav2 : ([] : List AV) = av := hav; rw [← hav2] at h28; unfold wordOf at h28; rw [show (txtOf (atA ([] : List AV) 0)).toList = [] from by rw [atA_out (by decide)]; exact litLB []] at h28
        cases h28
      | some x => exact ⟨x, rfl⟩
    have he1 : av1 = av := by rw [hav1] at hav; exact hav
    rw [he1] at hav1; have hall := allB_le hav1; refine zR <| zm rfl rfl <| zm rfl rfl <| zK rfl call74 rfl rfl (putting_spec hst hv15 hgood hv (by omega) (by omega)) ?_; clear hst; rintro e w ⟨J34, it, vh, hJ34, rfl, hone, hvh, hok, hit, hst⟩; obtain ⟨pb, hpb⟩ : ∃ x, (putOk av b).isSome = x := ⟨_, rfl⟩; rw [hpb]; replace hv := hv.mono hJ34; replace hd := hd.mono hJ34; replace hv15 := hv15.mono hJ34; replace hle := hle.trans hJ34; refine ⟨_, rfl, ?_⟩; refine zm rfl rfl <| zx rfl rfl rfl <| zx rfl rfl rfl <| ze rfl (runs_alloc ti40 hst) ?_; clear hst; rintro _ w ⟨b5, rfl, hst⟩; refine z0 (runs_storeW ti40 rfl rfl hst (k := 0) rfl rfl rfl (NoFz.zero _) (it_one _ hone)) ?_; clear hst; rintro w hst; (try simp only [sZ, sS] at hst); refine zS rfl rfl <| zM <| zk <| zR <| zm rfl rfl <| z1 rfl (runs_not rfl) <| zM <| zb rfl (fun hc38 => ?_) (fun hc38 => ?_)
    · have hcb38 := hc38; (try simp only [dY, dF] at hc38)
      have hpn : putOk av b = none := by
        cases h : putOk av b with
        | none => rfl
        | some x =>
          rw [h] at hpb; rw [← hpb] at hcb38
          simp at hcb38
      refine zR <| zS rfl rfl <| zM <| CW.ret <| zr <| AQ.block_ret <| zr <| z9 rfl rfl ?_; refine ⟨_, rows, next, Lt, 2, hle, rfl, hst.drop1, hd, ?_⟩; unfold Ap; rw [hav, if_pos h28, hpn]; exact ⟨rfl, rfl, rfl⟩
    · have hcb38 := hc38; (try simp only [dY, dF] at hc38)
      obtain ⟨it2, hpo⟩ : ∃ x, putOk av b = some x := by
        cases h : putOk av b with
        | none =>
          rw [h] at hpb; rw [← hpb] at hcb38
          simp at hcb38
        | some x => exact ⟨x, rfl⟩
      have hit2 := hit _ hpo; refine zj <| za <| zg <| zm rfl rfl <| z1 rfl (runs_loadN (vs := (itC (it) vh)) ag40 ti40 rfl hst (k := 0) rfl rfl rfl) ?_; replace hst := hst.perm (List.perm_middle (l₁ := Lt)).symm; refine zK rfl call75 rfl rfl (put_spec hd hst (hvh.srcH _) hok.len hok.id) ?_; clear hst; rintro e w ⟨J41, v41, Lt2, hJ41, rfl, hst, hd2⟩; replace hle := hle.trans hJ41; refine ⟨_, rfl, ?_⟩; refine zd <| zh <| za <| zR <| zS rfl rfl <| zM <| CW.ret <| z9 rfl rfl ?_; subst hit2; refine ⟨_, _, _, Lt2, 0, hle, rfl, hst.sub (List.Sublist.append (List.Sublist.refl _) (List.sublist_cons_self _ _)), hd2, ?_⟩; unfold Ap; rw [hav, if_pos h28, hpo]; exact ⟨rfl, ⟨v41, rfl⟩, rfl⟩
  · have hcb28 := hc28; (try simp only [dY, dF] at hc28)
    have h28 : wordOf av ≠ putL := by
      rw [hwl]; have := hcb28; rw [show (ByteArray.mk #[112, 117, 116]).toList = putL from litLB _] at this
      exact fun e => absurd ((beq_iff_eq (b := putL)).2 e) (by intro h; exact absurd (h.symm.trans this) (by decide))
    refine zR <| zm rfl rfl <| z1 rfl (runs_not rfl) <| zm rfl rfl <| zi (t := 45) rfl (fun hb45 => ?_) (fun hb45 => ?_)
    · have hb45p := hb45; (try simp only [dY, dF] at hb45p); refine zH rfl rfl rfl rfl rfl rfl rfl rfl hb45 <| zt rfl rfl hb45 rfl <| zS rfl rfl <| zM ?_
      have h42 : ¬ (isNum (atA av 1) = true ∧ av.length = 2) := by
        first
          | (rintro ⟨h1, h2⟩
             rw [h2] at hcb42
             simp at hcb42
             done)
          | (intro h
             rw [hnb] at h; rw [h.1] at hb45
             cases hb45)
      refine CW.cond_true rfl ?_; refine zR <| zS rfl rfl <| zM <| CW.ret <| AQ.block_ret <| zr <| z9 rfl rfl ?_; refine ⟨_, rows, next, Lt, 2, hle, rfl, hst, hd, ?_⟩; unfold Ap; rw [hav, if_neg h28, if_neg (by rw [hnb]; intro h; rw [h.1] at hb45; cases hb45)]; exact ⟨rfl, rfl, rfl⟩
    · have hb45p := hb45; (try simp only [dY, dF] at hb45p); refine zo rfl rfl rfl rfl hb45 <| zm rfl rfl <| zo rfl rfl rfl rfl hb45 <| z1 rfl (RdL.len Tryz.underlying95 rfl hv15) <| zo rfl rfl rfl rfl hb45 <| z1 rfl (runs_neI rfl rfl) <| zn rfl rfl hb45 rfl <| zS rfl rfl <| zM <| zb rfl (fun hc42 => ?_) (fun hc42 => ?_)
      · have hcb42 := hc42; (try simp only [dY, dF] at hc42)
        have h42 : ¬ (isNum (atA av 1) = true ∧ av.length = 2) := by
          first
            | (rintro ⟨h1, h2⟩
               rw [h2] at hcb42
               simp at hcb42
               done)
            | (intro h
               rw [hnb] at h; rw [h.1] at hb45
               cases hb45)
        refine zR <| zS rfl rfl <| zM <| CW.ret <| AQ.block_ret <| zr <| z9 rfl rfl ?_; refine ⟨_, rows, next, Lt, 2, hle, rfl, hst, hd, ?_⟩; unfold Ap; rw [hav, if_neg h28, if_neg h42]; exact ⟨rfl, rfl, rfl⟩
      · have hcb42 := hc42; (try simp only [dY, dF] at hc42)
        have h42 : isNum (atA av 1) = true ∧ av.length = 2 := by
          refine ⟨?_, ?_⟩
          · rw [hnb]; simpa using hb45
          · have : (av.length : Int) = 2 := by simpa using hcb42
            omega
        refine zR <| zm rfl rfl <| z1 rfl (runs_eqS rfl rfl) <| zS rfl rfl <| zM <| zb rfl (fun hc50 => ?_) (fun hc50 => ?_)
        · have hcb50 := hc50; (try simp only [dY, dF] at hc50)
          have h50 : wordOf av = dropL := by
            rw [hwl]; have := hcb50; rw [show (ByteArray.mk #[100, 114, 111, 112]).toList = dropL from litLB _] at this; exact beq_iff_eq.1 this
          refine zg <| zm rfl rfl <| zm rfl rfl <| zK rfl call76 rfl rfl (drop_spec hd hst nn) ?_; clear hst; rintro e w ⟨Lt2, rfl, hst, hd2⟩; refine ⟨_, rfl, ?_⟩; refine zd <| zh <| za <| zR <| zS rfl rfl <| zM <| CW.ret <| z9 rfl rfl ?_; refine ⟨_, _, _, Lt2, 0, hle, rfl, hst, hd2, ?_⟩; unfold Ap; rw [hav, if_neg h28, if_pos h42, if_pos h50, hnn]; exact ⟨rfl, rfl, rfl⟩
        · have hcb50 := hc50; (try simp only [dY, dF] at hc50)
          have h50 : wordOf av ≠ dropL := by
            rw [hwl]; have := hcb50; rw [show (ByteArray.mk #[100, 114, 111, 112]).toList = dropL from litLB _] at this
            exact fun e => absurd ((beq_iff_eq (b := dropL)).2 e) (by intro h; exact absurd (h.symm.trans this) (by decide))
          refine zR <| zm rfl rfl <| z1 rfl (runs_eqS rfl rfl) <| zS rfl rfl <| zM <| zb rfl (fun hc56 => ?_) (fun hc56 => ?_)
          · have hcb56 := hc56; (try simp only [dY, dF] at hc56)
            have h56 : wordOf av = nextL := by
              rw [hwl]; have := hcb56; rw [show (ByteArray.mk #[110, 101, 120, 116]).toList = nextL from litLB _] at this; exact beq_iff_eq.1 this
            obtain ⟨bM, oM, rfl, hm, hnd, hrows, hnx⟩ := hd; refine zg <| zm rfl rfl <| zm rfl rfl <| z1 rfl (runs_nilCheck rfl) <| zp rfl rfl U101 rfl ti3 rfl <| zl 0 rfl sc3 rfl hst rfl rfl <| zm rfl rfl <| z1 rfl (runs_max rfl rfl) <| z1 rfl (runs_nilCheck rfl) <| zp rfl rfl U101 rfl ti3 rfl ?_; refine zy 0 ti3 rfl rfl hst rfl rfl rfl ?_; clear hst; rintro w hst; (try simp only [sZ, sS] at hst); refine zd <| zh <| za <| zR <| zS rfl rfl <| zM <| CW.ret <| z9 rfl rfl ?_; refine ⟨_, rows, _, [_, _], 0, hle, rfl, hst, ⟨bM, oM, rfl, hm, hnd, hrows, ?_⟩, ?_⟩
            · split
              · exact hnok
              · exact hnx
            · unfold Ap; rw [hav, if_neg h28, if_pos h42, if_neg h50, if_pos h56, hnn]; exact ⟨rfl, rfl, rfl⟩
          · have hcb56 := hc56; (try simp only [dY, dF] at hc56)
            have h56 : wordOf av ≠ nextL := by
              rw [hwl]; have := hcb56; rw [show (ByteArray.mk #[110, 101, 120, 116]).toList = nextL from litLB _] at this
              exact fun e => absurd ((beq_iff_eq (b := nextL)).2 e) (by intro h; exact absurd (h.symm.trans this) (by decide))
            refine zR <| zS rfl rfl <| zM <| CW.ret <| AQ.block_ret <| zr <| z9 rfl rfl ?_; refine ⟨_, rows, next, Lt, 2, hle, rfl, hst, hd, ?_⟩; unfold Ap; rw [hav, if_neg h28, if_pos h42, if_neg h50, if_neg h56]; exact ⟨rfl, rfl, rfl⟩
def dropS : ByteArray := ⟨#[100, 114, 111, 112]⟩
def nextS : ByteArray := ⟨#[110, 101, 120, 116]⟩
def gb : AV → Bool
  | .num n => decide (-9223372036854775808 ≤ n ∧ n ≤ 9223372036854775807)
  | .txt b => decide (b.size ≤ 255)
  | .flg _ => true
  | .oth _ => false
theorem wordOf_txt (l : List UInt8) (r : List AV) : wordOf (.txt ⟨l.toArray⟩ :: r) = l := by
  unfold wordOf; rw [atA_in (by simp)]; exact litLB l
theorem at_1 (a b : AV) (r : List AV) : atA (a :: b :: r) 1 = b := by
  rw [atA_in (by simp only [List.length_cons]; omega)]
  rfl
theorem Ap_next {b : List UInt8} {n : Int} {rows rows' : List TRow} {next next' err : Int} (h : decA b = some [.txt nextS, .num n]) (ha : Ap b rows next err rows' next') : err = 0 ∧ rows' = rows ∧ next' = (if n > next then n else next) := by
  unfold Ap at ha; rw [h, Option.getD_some, show wordOf [.txt nextS, .num n] = nextL from wordOf_txt nextL _, if_neg (by decide), at_1, if_pos ⟨rfl, rfl⟩, if_neg (by decide), if_pos rfl] at ha; exact ha
theorem two_good {t : ByteArray} (ht : t.size ≤ 255) {n : Int} (hn : i64ok n) : ∀ a ∈ [AV.txt t, AV.num n], a.good 255 false := by
  intro a ha
  simp only [List.mem_cons, List.not_mem_nil, or_false] at ha
  rcases ha with rfl | rfl
  · exact ht
  · exact hn
theorem two_ok {t : ByteArray} (ht : t.size ≤ 255) {n : Int} (hn : i64ok n) : encOk [AV.txt t, AV.num n] = true := good_encOk (two_good ht hn) (Nat.le_refl _)
set_option maxRecDepth 100000 in
set_option maxHeartbeats 1000000 in
theorem droprec_spec {w0 w : World} {I : Imm} {L : Own} (hst : St w0 w I L) {n : Int} (hn : i64ok n) :
    Calls Tryz.prog 34 #[.int .i64 n] w fun e w' => ∃ I' v', I.le I' ∧ e = .returned (.tuple #[v', .int .i64 0]) ∧ St w0 w' I' L ∧ RdB I' v' (encA [.txt dropS, .num n]) := by
  refine enter Tryz.func34 rfl (N := 11) rfl rfl ?_
  simp only [zA, zB, zC, zD, zE, Nat.reduceAdd]
  have hle := Imm.le.refl I; refine zR <| zS rfl rfl <| zS rfl rfl <| zN <| z1 rfl (runs_makeIface con9 rfl) <| zm rfl rfl <| z1 rfl (runs_makeIface con3 rfl) <| ze rfl (runs_lit1R (xs := ([.txt dropS, .num n] : List AV).map AV.v) Tryz.underlying95 ti20 (by decide) rfl rfl rfl (by simp [AV.v, Value.oneCell']) hst) ?_; clear hst; rintro u1 w ⟨I1, hI1, hst, h1⟩; replace hle := hle.trans hI1; have hA : RdA _ u1 [.txt dropS, .num n] := h1; refine zK rfl call51 rfl rfl (enc_spec hst hA (two_good (by decide) hn) (show 2 ≤ 100000000000 by decide)) ?_; clear hst; rintro e w ⟨J8, v8, hJ8, rfl, hst, hv8⟩; rw [two_ok (by decide) hn] at hv8 ⊢; replace h1 := h1.mono hJ8; replace hA := hA.mono hJ8; replace hle := hle.trans hJ8; refine ⟨_, rfl, ?_⟩; refine zx rfl rfl rfl <| zx rfl rfl rfl <| zS rfl rfl <| zS rfl rfl <| zM <| CW.ret <| AQ.ret2 rfl rfl rfl ?_; exact ⟨_, v8, hle, rfl, hst, hv8⟩
end Go.Proofs.YtadgbifmiooikaaGreatX
