/- Parts of a proof, joined: walks through the program's functions and their laws, in the order in which they need each other. -/
import Derived.Test.YtadgbifmiooikaaGreatPCb
import Derived.Test.YtadgbifmiooikaaGreatPCh
import Derived.Test.YtadgbifmiooikaaGreatPCg
namespace Go.Proofs.YtadgbifmiooikaaGreatX
set_option linter.unusedVariables false
set_option linter.unusedSimpArgs false
open Go Go.RowKit Go.Proofs
def readEnd (at_ : Int) (ge gq : Int) (gb : List UInt8) (parts ger : Int) : Int × Int × List UInt8 × Int × Int :=
  if ger ≠ 0 then (0, 0, [], 0, ger) else if gb.length < 4 ∨ ((needN (gb.length - 4) : Nat) : Int) ≠ parts ∨ wholeB (gb.drop 4) ≠ gb then (0, 0, [], 0, 2) else (ge, gq, gb.drop 4, at_ + parts, 0)
def FrR (S : DS) (at_ end_ : Int) (r : Int × Int × List UInt8 × Int × Int) : Prop :=
  if at_ < 0 ∨ end_ ≤ at_ ∨ (S.secs.length : Int) < end_ then r = (0, 0, [], 0, 9) else ∃ ge gq gb parts ger, GatherR S at_ end_ ge gq gb parts ger ∧ r = readEnd at_ ge gq gb parts ger
theorem gather_len {S : DS} (h : DOk S) {at_ end_ e q parts er : Int} {b : List UInt8} (h0 : 0 ≤ at_ ∧ at_ < end_ ∧ end_ ≤ S.secs.length) (hg : GatherR S at_ end_ e q b parts er) : b.length ≤ 8160 ∧ 0 ≤ parts ∧ parts ≤ 255 := by
  have hn0 := openR_nlim (readR S (at_ + ((0 : Nat) : Int)))
  rcases hg with ⟨_, _, _, rfl, rfl, _⟩ | ⟨_, ⟨n, h1, h2, h3, _, _, rfl, rfl, _⟩ | ⟨k, _, _, _, _, _, rfl, rfl, _⟩⟩
  · exact ⟨Nat.zero_le _, by omega, by omega⟩
  · have hn : (n : Int) ≤ 255 := by rw [← h2]; exact hn0.2
    have := gB_len h (at_ := at_) n (fun j hj => by have := (h3 j hj).1; omega); exact ⟨by omega, by omega, by omega⟩
  · exact ⟨Nat.zero_le _, by omega, by omega⟩
set_option maxRecDepth 100000 in
set_option maxHeartbeats 1000000 in
theorem fread_spec {w0 w : World} {I : Imm} {L Ld : Own} {d : Value} {S : DS} (hd : DiskO d S Ld) (hst : St w0 w I (Ld ++ L)) (at_ end_ : Int) :
    Calls Tryz.prog 69 #[d, .int .i64 at_, .int .i64 end_] w fun r w' => ∃ I' v' e q b next er, Imm.le I I' ∧ r = .returned (.tuple #[.agg #[.int .i64 e, .int .i64 q], v', .int .i64 next, .int .i64 er]) ∧ St w0 w' I' (Ld ++ L) ∧ RdB I' v' b ∧ FrR S at_ end_ (e, q, b, next, er) := by
  have hok : DOk S := by obtain ⟨_, _, _, _, _, _, _, _, _, hok⟩ := hd; exact hok
  have hsl := hok.1; refine enter Tryz.func69 rfl (N := 65) rfl rfl ?_
  simp only [zA, zB, zC, zD, zE, Nat.reduceAdd]
  have hle := Imm.le.refl I; refine zR <| ze rfl (runs_alloc ti124 hst) ?_; clear hst; rintro _ w ⟨b1, rfl, hst⟩; refine zS rfl rfl <| zS rfl rfl <| zS rfl rfl <| zM <| zk <| zR <| zm rfl rfl <| z1 rfl (runs_lss rfl rfl) <| zm rfl rfl <| zi (t := 14) rfl (fun hb14 => ?_) (fun hb14 => ?_)
  · have hb14p := hb14; (try simp only [dY, dF] at hb14p); refine zH rfl rfl rfl rfl rfl rfl rfl rfl hb14 <| zt rfl rfl hb14 rfl <| zm rfl rfl <| zH rfl rfl rfl rfl rfl rfl rfl rfl rfl <| zf rfl rfl rfl rfl rfl <| zt rfl rfl rfl rfl <| zM <| CW.cond_true rfl ?_; refine zR <| z1 rfl (runs_buildF (cells := [_, _]) bz124 rfl rfl rfl rfl rfl) ?_; refine zw 0 ti124 rfl rfl hst rfl rfl rfl rfl ?_; clear hst; rintro w hst; (try simp only [sZ, sS] at hst); refine zS rfl rfl <| zS rfl rfl <| zS rfl rfl <| zM <| CW.ret <| zr <| AQ.retL (rs := [.cell 6 124, .tmp 7, .tmp 8, .tmp 9]) (vs := [_, _, _, _]) rfl ⟨⟨_, rfl, hst.loadN (vs := [_, _]) (k := 0) ag124 ti124 rfl rfl rfl⟩, rfl, rfl, rfl, trivial⟩ (by simp) ?_; exact ⟨_, _, 0, 0, [], 0, 9, hle, rfl, hst.drop1, RdL.nil 1, by unfold FrR; rw [if_pos (by omega)]⟩
  · have hb14p := hb14; (try simp only [dY, dF] at hb14p); refine zo rfl rfl rfl rfl hb14 <| zm rfl rfl <| zo rfl rfl rfl rfl hb14 <| zm rfl rfl <| zo rfl rfl rfl rfl hb14 <| z1 rfl (runs_geq rfl rfl) <| zn rfl rfl hb14 rfl <| zm rfl rfl <| zi (t := 19) rfl (fun hb19 => ?_) (fun hb19 => ?_)
    · have hb19p := hb19; (try simp only [dY, dF] at hb19p); refine zH rfl rfl rfl rfl rfl rfl rfl rfl hb19 <| zf rfl rfl rfl rfl hb19 <| zt rfl rfl hb19 rfl <| zM <| CW.cond_true rfl ?_; refine zR <| z1 rfl (runs_buildF (cells := [_, _]) bz124 rfl rfl rfl rfl rfl) ?_; refine zw 0 ti124 rfl rfl hst rfl rfl rfl rfl ?_; clear hst; rintro w hst; (try simp only [sZ, sS] at hst); refine zS rfl rfl <| zS rfl rfl <| zS rfl rfl <| zM <| CW.ret <| zr <| AQ.retL (rs := [.cell 6 124, .tmp 7, .tmp 8, .tmp 9]) (vs := [_, _, _, _]) rfl ⟨⟨_, rfl, hst.loadN (vs := [_, _]) (k := 0) ag124 ti124 rfl rfl rfl⟩, rfl, rfl, rfl, trivial⟩ (by simp) ?_; exact ⟨_, _, 0, 0, [], 0, 9, hle, rfl, hst.drop1, RdL.nil 1, by unfold FrR; rw [if_pos (by omega)]⟩
    · have hb19p := hb19; (try simp only [dY, dF] at hb19p); refine zo rfl rfl rfl rfl hb19 <| zm rfl rfl <| zo rfl rfl rfl rfl hb19 <| zm rfl rfl <| zo rfl rfl rfl rfl hb19 <| zK rfl call40 rfl rfl (len_spec hd (hst.perm List.perm_middle.symm)) ?_; clear hst; rintro e w ⟨rfl, hst⟩; replace hst := hst.perm List.perm_middle; refine ⟨_, rfl, ?_⟩; refine zo rfl rfl rfl rfl hb19 <| z1 rfl (runs_gtr rfl rfl) <| zn rfl rfl hb19 rfl <| zM <| zb rfl (fun hc24 => ?_) (fun hc24 => ?_)
      · have hcb24 := hc24; (try simp only [dY, dF] at hc24); refine zR <| z1 rfl (runs_buildF (cells := [_, _]) bz124 rfl rfl rfl rfl rfl) ?_; refine zw 0 ti124 rfl rfl hst rfl rfl rfl rfl ?_; clear hst; rintro w hst; (try simp only [sZ, sS] at hst); refine zS rfl rfl <| zS rfl rfl <| zS rfl rfl <| zM <| CW.ret <| zr <| AQ.retL (rs := [.cell 6 124, .tmp 7, .tmp 8, .tmp 9]) (vs := [_, _, _, _]) rfl ⟨⟨_, rfl, hst.loadN (vs := [_, _]) (k := 0) ag124 ti124 rfl rfl rfl⟩, rfl, rfl, rfl, trivial⟩ (by simp) ?_; exact ⟨_, _, 0, 0, [], 0, 9, hle, rfl, hst.drop1, RdL.nil 1, by unfold FrR; rw [if_pos (by omega)]⟩
      · have hcb24 := hc24; (try simp only [dY, dF] at hc24)
        have h0 : 0 ≤ at_ ∧ at_ < end_ ∧ end_ ≤ S.secs.length := by omega
        refine zj <| za <| zR <| zm rfl rfl <| zm rfl rfl <| zm rfl rfl <| zK rfl call111 rfl rfl (gather_spec hd (hst.perm List.perm_middle.symm) at_ end_ h0) ?_; clear hst; rintro e w ⟨I6, vG, ge, gq, gb, pn, ger, hI6, rfl, hst, hG, hgr⟩; replace hst := hst.perm List.perm_middle; obtain ⟨hgl, hp0, hp1⟩ := gather_len hok h0 hgr
        have hfr : ∀ r, r = readEnd at_ ge gq gb pn ger → FrR S at_ end_ r := by
          intro r hr; unfold FrR; rw [if_neg (by omega)]; exact ⟨ge, gq, gb, pn, ger, hgr, hr⟩
        replace hle := hle.trans hI6; refine ⟨_, rfl, ?_⟩; refine zm rfl rfl <| zx rfl rfl rfl <| zx rfl rfl rfl <| zx rfl rfl rfl <| zx rfl rfl rfl ?_; refine zw 0 ti124 rfl rfl hst rfl rfl rfl rfl ?_; clear hst; rintro w hst; (try simp only [sZ, sS] at hst); refine zS rfl rfl <| zS rfl rfl <| zS rfl rfl <| zM <| zk <| zR <| zm rfl rfl <| z1 rfl (runs_neI rfl rfl) <| zM <| zb rfl (fun hc36 => ?_) (fun hc36 => ?_)
        · have hcb36 := hc36; (try simp only [dY, dF] at hc36); refine zR <| z1 rfl (runs_buildF (cells := [_, _]) bz124 rfl rfl rfl rfl rfl) <| zm rfl rfl ?_; refine zw 0 ti124 rfl rfl hst rfl rfl rfl rfl ?_; clear hst; rintro w hst; (try simp only [sZ, sS] at hst); refine zS rfl rfl <| zS rfl rfl <| zS rfl rfl <| zM <| CW.ret <| zr <| AQ.retL (rs := [.cell 6 124, .tmp 7, .tmp 8, .tmp 9]) (vs := [_, _, _, _]) rfl ⟨⟨_, rfl, hst.loadN (vs := [_, _]) (k := 0) ag124 ti124 rfl rfl rfl⟩, rfl, rfl, rfl, trivial⟩ (by simp) ?_; exact ⟨_, _, 0, 0, [], 0, ger, hle, rfl, hst.drop1, RdL.nil 1, hfr _ (by unfold readEnd; rw [if_pos (by omega)])⟩
        · have hcb36 := hc36; (try simp only [dY, dF] at hc36); refine zj <| za <| zk <| zR <| zm rfl rfl <| z1 rfl (RdL.len Tryz.underlying52 rfl hG) <| z1 rfl (runs_lss rfl rfl) <| zm rfl rfl <| zi (t := 42) rfl (fun hb42 => ?_) (fun hb42 => ?_)
          · have hb42p := hb42; (try simp only [dY, dF] at hb42p); refine zH rfl rfl rfl rfl rfl rfl rfl rfl hb42 <| zG rfl rfl rfl rfl rfl rfl hb42 <| zt rfl rfl hb42 rfl <| zm rfl rfl <| zH rfl rfl rfl rfl rfl rfl rfl rfl rfl <| zH rfl rfl rfl rfl rfl rfl rfl rfl rfl <| zt rfl rfl rfl rfl <| zM <| CW.cond_true rfl ?_; refine zR <| z1 rfl (runs_buildF (cells := [_, _]) bz124 rfl rfl rfl rfl rfl) ?_; refine zw 0 ti124 rfl rfl hst rfl rfl rfl rfl ?_; clear hst; rintro w hst; (try simp only [sZ, sS] at hst); refine zS rfl rfl <| zS rfl rfl <| zS rfl rfl <| zM <| CW.ret <| zr <| AQ.retL (rs := [.cell 6 124, .tmp 7, .tmp 8, .tmp 9]) (vs := [_, _, _, _]) rfl ⟨⟨_, rfl, hst.loadN (vs := [_, _]) (k := 0) ag124 ti124 rfl rfl rfl⟩, rfl, rfl, rfl, trivial⟩ (by simp) ?_; exact ⟨_, _, 0, 0, [], 0, 2, hle, rfl, hst.drop1, RdL.nil 1, hfr _ (by unfold readEnd; rw [if_neg (by omega), if_pos (.inl (by omega))])⟩
          · have hb42p := hb42; (try simp only [dY, dF] at hb42p)
            have h4 : 4 ≤ gb.length := by omega
            have hp4 := RdB.part hG (lo := ((4 : Int)).toNat) (hi := gb.length) (by show 4 ≤ gb.length; exact h4) (Nat.le_refl _); rw [List.take_of_length_le (l := gb.drop ((4 : Int)).toNat) (by rw [List.length_drop]; exact Nat.le_refl _)] at hp4; replace hp4 : RdB _ _ (gb.drop 4) := hp4; have hdl : (gb.drop 4).length = gb.length - 4 := List.length_drop; refine zo rfl rfl rfl rfl hb42 <| zm rfl rfl <| zo rfl rfl rfl rfl hb42 <| z1 rfl (RdL.slice_l Tryz.underlying52 ti5 rfl rfl hG (by omega)) ?_; refine zo rfl rfl rfl rfl hb42 <| zK rfl call112 rfl rfl (need_spec hst hp4 (by omega)) ?_; clear hst; rintro e w ⟨rfl, hst⟩; rw [hdl]; refine ⟨_, rfl, ?_⟩; refine zo rfl rfl rfl rfl hb42 <| zm rfl rfl <| zo rfl rfl rfl rfl hb42 <| z1 rfl (runs_neI rfl rfl) <| zn rfl rfl hb42 rfl <| zm rfl rfl <| zi (t := 49) rfl (fun hb49 => ?_) (fun hb49 => ?_)
            · have hb49p := hb49; (try simp only [dY, dF] at hb49p); refine zH rfl rfl rfl rfl rfl rfl rfl rfl hb49 <| zH rfl rfl rfl rfl rfl rfl rfl rfl hb49 <| zt rfl rfl hb49 rfl <| zM <| CW.cond_true rfl ?_; refine zR <| z1 rfl (runs_buildF (cells := [_, _]) bz124 rfl rfl rfl rfl rfl) ?_; refine zw 0 ti124 rfl rfl hst rfl rfl rfl rfl ?_; clear hst; rintro w hst; (try simp only [sZ, sS] at hst); refine zS rfl rfl <| zS rfl rfl <| zS rfl rfl <| zM <| CW.ret <| zr <| AQ.retL (rs := [.cell 6 124, .tmp 7, .tmp 8, .tmp 9]) (vs := [_, _, _, _]) rfl ⟨⟨_, rfl, hst.loadN (vs := [_, _]) (k := 0) ag124 ti124 rfl rfl rfl⟩, rfl, rfl, rfl, trivial⟩ (by simp) ?_; exact ⟨_, _, 0, 0, [], 0, 2, hle, rfl, hst.drop1, RdL.nil 1, hfr _ (by unfold readEnd; rw [if_neg (by omega), if_pos (.inr (.inl (by omega)))])⟩
            · have hb49p := hb49; (try simp only [dY, dF] at hb49p); refine zo rfl rfl rfl rfl hb49 <| zm rfl rfl <| zo rfl rfl rfl rfl hb49 <| z1 rfl (RdL.slice_l Tryz.underlying52 ti5 rfl rfl hG (by omega)) ?_; refine zo rfl rfl rfl rfl hb49 <| zK rfl call114 rfl rfl (whole_spec hst hp4 (by omega)) ?_; clear hst; rintro e w ⟨I12, vW, hI12, rfl, hst, hW⟩; have hp5 := RdL.mono hI12 hp4; replace hG := hG.mono hI12; replace hle := hle.trans hI12; refine ⟨_, rfl, ?_⟩; refine zo rfl rfl rfl rfl hb49 <| zm rfl rfl <| zo rfl rfl rfl rfl hb49 <| zK rfl call113 rfl rfl (equal_spec hst hW hG) ?_; clear hst; rintro e w ⟨rfl, hst⟩; refine ⟨_, rfl, ?_⟩; refine zo rfl rfl rfl rfl hb49 <| z1 rfl (runs_not rfl) <| zn rfl rfl hb49 rfl <| zM <| zb rfl (fun hc56 => ?_) (fun hc56 => ?_)
              · have hcb56 := hc56; (try simp only [dY, dF] at hc56); refine zR <| z1 rfl (runs_buildF (cells := [_, _]) bz124 rfl rfl rfl rfl rfl) ?_; refine zw 0 ti124 rfl rfl hst rfl rfl rfl rfl ?_; clear hst; rintro w hst; (try simp only [sZ, sS] at hst); refine zS rfl rfl <| zS rfl rfl <| zS rfl rfl <| zM <| CW.ret <| zr <| AQ.retL (rs := [.cell 6 124, .tmp 7, .tmp 8, .tmp 9]) (vs := [_, _, _, _]) rfl ⟨⟨_, rfl, hst.loadN (vs := [_, _]) (k := 0) ag124 ti124 rfl rfl rfl⟩, rfl, rfl, rfl, trivial⟩ (by simp) ?_
                have hne : wholeB (gb.drop 4) ≠ gb := by simpa using hc56
                exact ⟨_, _, 0, 0, [], 0, 2, hle, rfl, hst.drop1, RdL.nil 1, hfr _ (by unfold readEnd; rw [if_neg (by omega), if_pos (.inr (.inr hne))])⟩
              · have hcb56 := hc56; (try simp only [dY, dF] at hc56); refine zj <| za <| zk ?_; refine CW.draw (fun _ => True) (.q 1 (.q 2 (.q 4 (.q 5 (.q 6 (.fork (.l 0 (.l 3 (.l 7 (.q 8 (.q 9 (.q 10 .nil)))))) (.l 3 (.l 0 (.l 7 (.q 8 (.q 9 (.q 10 .nil)))))))))))) follows (by kernel_rfl) trivial ?_; replace hst := hst.draw; refine ym rfl rfl rfl <| DRW.q rfl rfl (fun w' hF => RdL.slice_l Tryz.underlying52 ti5 rfl rfl hG (by omega)) ?_; refine ym rfl rfl rfl <| ym rfl rfl rfl <| DRW.q rfl rfl (fun w' hF => runs_add rfl rfl (by omega)) ?_; refine DRW.fork ?_ ?_
                · refine DRW.op1 rfl rfl (runs_loadN (vs := [_, _]) ag124 ti124 rfl hst (k := 0) rfl rfl rfl) trivial ?_; refine yC rfl rfl call70 rfl rfl (clone_spec hst hp5 (by omega)) ?_; clear hst; rintro e w ⟨I15, vC, hI15, rfl, hst, hC⟩; replace hG := hG.mono hI15; replace hW := hW.mono hI15; replace hle := hle.trans hI15; refine ⟨_, rfl, trivial, ?_⟩; refine y0 rfl (runs_storeW ti124 rfl rfl hst (k := 0) rfl rfl rfl (NoFz.zero _) rfl) ?_; clear hst; rintro w hst; (try simp only [sZ, sS] at hst); refine ⟨trivial, ?_⟩; refine yS rfl rfl rfl <| yS rfl rfl rfl <| yS rfl rfl rfl <| DRW.done <| za <| CW.ret <| AQ.retL (rs := [.cell 6 124, .tmp 7, .tmp 8, .tmp 9]) (vs := [_, _, _, _]) rfl ⟨⟨_, rfl, hst.loadN (vs := [_, _]) (k := 0) ag124 ti124 rfl rfl rfl⟩, rfl, rfl, rfl, trivial⟩ (by simp) ?_
                  have heq : wholeB (gb.drop 4) = gb := by simpa using hc56
                  exact ⟨_, _, _, _, _, _, 0, hle, rfl, hst.drop1, hC, hfr _ (by unfold readEnd; rw [if_neg (by omega), if_neg (by rintro (h | h | h) <;> first | omega | exact h heq)])⟩
                refine yC rfl rfl call70 rfl rfl (clone_spec hst hp5 (by omega)) ?_; clear hst; rintro e w ⟨I17, vC, hI17, rfl, hst, hC⟩; replace hG := hG.mono hI17; replace hW := hW.mono hI17; replace hle := hle.trans hI17; refine ⟨_, rfl, trivial, ?_⟩; refine DRW.op1 rfl rfl (runs_loadN (vs := [_, _]) ag124 ti124 rfl hst (k := 0) rfl rfl rfl) trivial ?_; refine y0 rfl (runs_storeW ti124 rfl rfl hst (k := 0) rfl rfl rfl (NoFz.zero _) rfl) ?_; clear hst; rintro w hst; (try simp only [sZ, sS] at hst); refine ⟨trivial, ?_⟩; refine yS rfl rfl rfl <| yS rfl rfl rfl <| yS rfl rfl rfl <| DRW.done <| za <| CW.ret <| AQ.retL (rs := [.cell 6 124, .tmp 7, .tmp 8, .tmp 9]) (vs := [_, _, _, _]) rfl ⟨⟨_, rfl, hst.loadN (vs := [_, _]) (k := 0) ag124 ti124 rfl rfl rfl⟩, rfl, rfl, rfl, trivial⟩ (by simp) ?_
                have heq : wholeB (gb.drop 4) = gb := by simpa using hc56
                exact ⟨_, _, _, _, _, _, 0, hle, rfl, hst.drop1, hC, hfr _ (by unfold readEnd; rw [if_neg (by omega), if_neg (by rintro (h | h | h) <;> first | omega | exact h heq)])⟩
end Go.Proofs.YtadgbifmiooikaaGreatX
namespace Go.Proofs.YtadgbifmiooikaaGreatX
set_option linter.unusedVariables false
open Go
attribute [local simp] two_length three_length
theorem openOk_parts {z : List UInt8} (h : openOk z = true) : z.length = 32 ∧ bat z 7 ≤ 19 ∧ sealM (epochOf z) (seqOf z) (bat z 5) (bat z 6) (bodyOf z) = true ∧ sealB (epochOf z) (seqOf z) (bat z 5) (bat z 6) (bodyOf z) = z := by
  unfold openOk at h
  simpa [and_assoc] using h
theorem sealM_parts {e s p n : Int} {b : List UInt8} (h : sealM e s p n b = true) : (0 ≤ e ∧ e < 65536) ∧ (0 ≤ s ∧ s < 16777216) ∧ 0 ≤ p ∧ p < n ∧ n ≤ 255 ∧ b.length ≤ 19 := by
  unfold sealM mayM at h
  simpa [and_assoc] using h
theorem sealB_tail {e s p n : Int} {b : List UInt8} (h : b.length ≤ 19) : (sealB e s p n b).drop 27 = three s ++ two e := by
  have e1 : sealB e s p n b = (two e ++ three s ++ [u8 p, u8 n, u8 b.length] ++ b ++ List.replicate (19 - b.length) 0) ++ (three s ++ two e) := by simp [sealB]
  rw [e1, List.drop_append_of_le_length (by simp [two, three]; omega), List.drop_eq_nil_of_le (by simp [two, three]; omega)]
  rfl
theorem sealB_at {e s p n : Int} {b : List UInt8} (hb : b.length ≤ 19) : ∀ k, k < 32 → (sealB e s p n b).getD k 0 = ([u8 (e / 2 ^ 8), u8 e, u8 (s / 2 ^ 16), u8 (s / 2 ^ 8), u8 s, u8 p, u8 n, u8 b.length] ++ (b ++ List.replicate (19 - b.length) 0) ++ [u8 (s / 2 ^ 16), u8 (s / 2 ^ 8), u8 s, u8 (e / 2 ^ 8), u8 e]).getD k 0 := by
  intro k hk
  congr 1
  simp [sealB, two, three]
theorem sealB_open {e s p n : Int} {b : List UInt8} (h : sealM e s p n b = true) : epochOf (sealB e s p n b) = e ∧ seqOf (sealB e s p n b) = s ∧ bat (sealB e s p n b) 5 = p ∧ bat (sealB e s p n b) 6 = n ∧ bat (sealB e s p n b) 7 = b.length ∧ bodyOf (sealB e s p n b) = b := by
  obtain ⟨he, hs, hp, hpn, hn, hb⟩ := sealM_parts h
  have g : ∀ k : Nat, k < 8 → bat (sealB e s p n b) (k : Int) = (([u8 (e / 2 ^ 8), u8 e, u8 (s / 2 ^ 16), u8 (s / 2 ^ 8), u8 s, u8 p, u8 n, u8 b.length].getD k 0).toNat : Int) := by
    intro k hk; unfold bat; rw [Int.toNat_natCast, sealB_at hb k (by omega)]
    simp only [List.getD_eq_getElem?_getD]
    rw [List.append_assoc, List.getElem?_append_left (by simpa using hk)]
  have g0 := g 0 (by decide); have g1 := g 1 (by decide); have g2 := g 2 (by decide); have g3 := g 3 (by decide); have g4 := g 4 (by decide); have g5 := g 5 (by decide); have g6 := g 6 (by decide); have g7 := g 7 (by decide)
  simp only [List.getD_eq_getElem?_getD, List.getElem?_cons_zero, List.getElem?_cons_succ, Option.getD_some, u8_toNat] at g0 g1 g2 g3 g4 g5 g6 g7
  have k7 : bat (sealB e s p n b) 7 = (b.length : Int) := by rw [show (7 : Int) = ((7 : Nat) : Int) from rfl, g7]; omega
  refine ⟨?_, ?_, ?_, ?_, k7, ?_⟩
  · unfold epochOf; rw [show (0 : Int) = ((0 : Nat) : Int) from rfl, show (1 : Int) = ((1 : Nat) : Int) from rfl, g0, g1]; omega
  · unfold seqOf; rw [show (2 : Int) = ((2 : Nat) : Int) from rfl, show (3 : Int) = ((3 : Nat) : Int) from rfl, show (4 : Int) = ((4 : Nat) : Int) from rfl, g2, g3, g4]; omega
  · rw [show (5 : Int) = ((5 : Nat) : Int) from rfl, g5]; omega
  · rw [show (6 : Int) = ((6 : Nat) : Int) from rfl, g6]; omega
  · unfold bodyOf
    have hN : batN (sealB e s p n b) 7 = b.length := by have := bat_N (sealB e s p n b) 7; omega
    rw [hN]
    have e1 : sealB e s p n b = (two e ++ three s ++ [u8 p, u8 n, u8 b.length]) ++ (b ++ (List.replicate (19 - b.length) 0 ++ three s ++ two e)) := by simp [sealB]
    rw [e1, List.drop_append, List.drop_eq_nil_of_le (by simp [two, three])]
    simp [two, three]
theorem sealB_openOk {e s p n : Int} {b : List UInt8} (h : sealM e s p n b = true) : openOk (sealB e s p n b) = true := by
  obtain ⟨h1, h2, h3, h4, h5, h6⟩ := sealB_open h; have hb := (sealM_parts h).2.2.2.2.2; refine openOk_all (sealB_length hb) (by rw [h5]; omega) ?_ ?_
  · rw [h1, h2, h3, h4, h6]; exact h
  · rw [h1, h2, h3, h4, h6]
theorem openR_sealB {e s p n : Int} {b : List UInt8} (h : sealM e s p n b = true) : openR (sealB e s p n b) = ⟨e, s, p, n, b, 0⟩ := by
  rw [openR_ok (sealB_openOk h)]; obtain ⟨h1, h2, h3, h4, h5, h6⟩ := sealB_open h; rw [h1, h2, h3, h4, h6]
theorem openR_err (s : List UInt8) : (openR s).err = if openOk s then 0 else 2 := by
  unfold openR
  split <;> rfl
end Go.Proofs.YtadgbifmiooikaaGreatX
namespace Go.Proofs.YtadgbifmiooikaaGreatX
set_option linter.unusedVariables false
set_option linter.unusedSimpArgs false
open Go Go.RowKit
def putP (at_ : Int) (f : Nat → List UInt8) : Nat → List (Int × List UInt8)
  | 0 => []
  | k + 1 => putP at_ f k ++ [(at_ + (k : Int), f k)]
def Up (S : DS) : Prop := S.down = false ∧ S.left = -1
theorem fold_in {at_ : Int} {f : Nat → List UInt8} {p : Int} {b0 : List UInt8} : ∀ (n j : Nat), j < n → p = at_ + (j : Int) → (putP at_ f n).foldl (fun b x => if x.1 = p then x.2 else b) b0 = f j
  | 0, j, h, _ => absurd h (Nat.not_lt_zero _)
  | n + 1, j, h, hp => by
    show (putP at_ f n ++ [_]).foldl _ b0 = _
    rw [List.foldl_append]
    show (if at_ + (n : Int) = p then f n else _) = f j
    by_cases hj : j = n
    · subst hj; rw [if_pos hp.symm]
    · rw [if_neg (by omega)]; exact fold_in n j (by omega) hp
theorem fold_out {at_ : Int} {f : Nat → List UInt8} {p : Int} {b0 : List UInt8} : ∀ (n : Nat), p < at_ ∨ at_ + (n : Int) ≤ p → (putP at_ f n).foldl (fun b x => if x.1 = p then x.2 else b) b0 = b0
  | 0, _ => rfl
  | n + 1, hp => by
    show (putP at_ f n ++ [_]).foldl _ b0 = _
    rw [List.foldl_append]
    show (if at_ + (n : Int) = p then f n else _) = b0
    rw [if_neg (by omega)]; exact fold_out n (by omega)
theorem read_in {S : DS} {at_ : Int} {f : Nat → List UInt8} {n j : Nat} (hj : j < n) : readR { S with pend := S.pend ++ putP at_ f n } (at_ + (j : Int)) = f j := by
  unfold readR; rw [List.foldl_append]; exact fold_in n j hj rfl
theorem read_out {S : DS} {at_ p : Int} {f : Nat → List UInt8} {n : Nat} (hp : p < at_ ∨ at_ + (n : Int) ≤ p) : readR { S with pend := S.pend ++ putP at_ f n } p = readR S p := by
  unfold readR; rw [List.foldl_append]; exact fold_out n hp
theorem secB_len {e q : Int} {b : List UInt8} (hm : mayM e q = true) (hn : needN b.length ≤ 255) {k : Nat} (hk : k < needN b.length) : (secB e q b k).length = 32 := sealB_length (partB_len b k)
theorem secB_open {e q : Int} {b : List UInt8} (hm : mayM e q = true) (hn : needN b.length ≤ 255) {k : Nat} (hk : k < needN b.length) : openR (secB e q b k) = ⟨e, q, (k : Int), (needN b.length : Nat), partB b k, 0⟩ := openR_sealB (seal_part hm hn hk)
theorem need_room (n : Nat) : n + 4 ≤ 19 * needN n ∧ 19 * needN n < n + 23 ∧ 1 ≤ needN n := by
  unfold needN; omega
def Holds (S : DS) (at_ e q : Int) (b : List UInt8) : Prop := mayM e q = true ∧ needN b.length ≤ 255 ∧ ∀ k, k < needN b.length → readR S (at_ + (k : Int)) = secB e q b k
theorem Holds.o {S : DS} {at_ e q : Int} {b : List UInt8} (h : Holds S at_ e q b) {k : Nat} (hk : k < needN b.length) : oAt S at_ k = ⟨e, q, (k : Int), (needN b.length : Nat), partB b k, 0⟩ := by
  unfold oAt; rw [h.2.2 k hk]; exact secB_open h.1 h.2.1 hk
theorem Holds.ok {S : DS} {at_ e q : Int} {b : List UInt8} (h : Holds S at_ e q b) {k : Nat} (hk : k < needN b.length) : okP S at_ k := by
  have hr := need_room b.length; have h0 := h.o (k := 0) (by omega); unfold okP; rw [h.o hk, h0]; refine ⟨rfl, rfl, rfl, rfl, ?_⟩; rintro ⟨h1, h2⟩; dsimp only at h1 h2
  have : (partB b k).length = 19 := by
    unfold partB; rw [List.length_take, List.length_drop, wholeB_len]; omega
  omega
theorem Holds.g {S : DS} {at_ e q : Int} {b : List UInt8} (h : Holds S at_ e q b) : ∀ k, k ≤ needN b.length → gB S at_ k = (wholeB b).take (19 * k)
  | 0, _ => by simp [gB]
  | k + 1, hk => by
    show gB S at_ k ++ (oAt S at_ k).b = _
    rw [h.g k (by omega), h.o (by omega)]
    show (wholeB b).take (19 * k) ++ partB b k = _
    unfold partB; rw [Nat.mul_add, List.take_add]
theorem Holds.all {S : DS} {at_ e q : Int} {b : List UInt8} (h : Holds S at_ e q b) : gB S at_ (needN b.length) = wholeB b := by
  have hr := need_room b.length; rw [h.g _ (Nat.le_refl _), List.take_of_length_le (by rw [wholeB_len]; omega)]
theorem whole_drop (b : List UInt8) : (wholeB b).drop 4 = b := by unfold wholeB sumB; rfl
theorem readEnd_whole (at_ e q : Int) (b : List UInt8) : readEnd at_ e q (wholeB b) (needN b.length : Nat) 0 = (e, q, b, at_ + (needN b.length : Nat), 0) := by
  unfold readEnd; rw [if_neg (by simp), whole_drop, wholeB_len, Nat.add_sub_cancel, if_neg (by rintro (h | h | h) <;> first | omega | exact h rfl)]
end Go.Proofs.YtadgbifmiooikaaGreatX
namespace Go.Proofs.YtadgbifmiooikaaGreatX
set_option linter.unusedVariables false
set_option linter.unusedSimpArgs false
open Go Go.RowKit
variable {w0 w : World} {I : Imm} {L : Own}
structure Slot where
  n : Int
  e : Int
  h : Int
  f : Int
  b : Int
  deriving DecidableEq
def slot0 : Slot := ⟨0, 0, 0, 0, 0⟩
def slotV (s : Slot) : List Value := [.int .i64 s.n, .int .i64 s.e, .int .i64 s.h, .int .i64 s.f, .int .i64 s.b]
def slotB (s : Slot) : List UInt8 := [u8 s.h, u8 (s.f / 2 ^ 16), u8 (s.f / 2 ^ 8), u8 s.f, u8 (s.b / 2 ^ 8), u8 s.b]
def slotX (s : Slot) : List UInt8 := sealB s.e s.n 0 1 (slotB s)
theorem slot_seal (s : Slot) : sealM s.e s.n 0 1 (slotB s) = mayM s.e s.n := by
  unfold sealM; rw [show (slotB s).length = 6 from rfl]
  simp
theorem slotX_len (s : Slot) : (slotX s).length = 32 := sealB_length (by show 6 ≤ 19; decide)
def storeR (S : DS) (s : Slot) : DS × Int :=
  if mayM s.e s.n = false then (S, 5) else if (writeR S (s.n.tmod 2) (slotX s)).2 ≠ 0 then writeR S (s.n.tmod 2) (slotX s) else flushR (writeR S (s.n.tmod 2) (slotX s)).1
def slotOf (o : OpenR) : Slot := ⟨o.q, o.e, bat o.b 0, bat o.b 1 * 2 ^ 16 + bat o.b 2 * 2 ^ 8 + bat o.b 3, bat o.b 4 * 2 ^ 8 + bat o.b 5⟩
def isSlot (o : OpenR) : Bool := decide (o.err = 0) && (decide (o.p = 0) && (decide (o.n = 1) && (decide (o.b.length = 6) && decide (bat o.b 0 ≤ 1))))
def slotAt (x : List UInt8) : Option Slot := if isSlot (openR x) then some (slotOf (openR x)) else none
def loadR (S : DS) (a : Int) : Slot × Bool × Int := if mayR S a ≠ 0 then (slot0, false, mayR S a) else match slotAt (readR S a) with
  | some s => (s, true, 0)
  | none => (slot0, false, 0)
def better : Option Slot → Option Slot → Option Slot
  | none, y => y
  | some x, none => some x
  | some x, some y => if y.n > x.n then some y else some x
def newestR (S : DS) : Slot × Int :=
  if S.down = true then (slot0, 8) else if S.secs.length < 2 then (slot0, 9) else match better (slotAt (readR S 0)) (slotAt (readR S 1)) with
  | some s => (s, 0)
  | none => (slot0, 3)
structure LG where
  s : Slot
  at_ : Int
  nx : Int
  bad : Int
def logV (d : Value) (G : LG) : List Value := [d, .int .i64 G.s.n, .int .i64 G.s.e, .int .i64 G.s.h, .int .i64 G.s.f, .int .i64 G.s.b, .int .i64 G.at_, .int .i64 G.nx, .int .i64 G.bad]
def beginR (h : Int) : Int := 2 + h * 256
theorem slotAt_X {s : Slot} (hm : mayM s.e s.n = true) (hh : 0 ≤ s.h ∧ s.h ≤ 1) (hf : 0 ≤ s.f ∧ s.f < 16777216) (hb : 0 ≤ s.b ∧ s.b < 65536) : slotAt (slotX s) = some s := by
  have ho : openR (slotX s) = ⟨s.e, s.n, 0, 1, slotB s, 0⟩ := openR_sealB (by rw [slot_seal]; exact hm)
  have h0 : bat (slotB s) 0 = s.h := by show ((u8 s.h).toNat : Int) = _; rw [u8_toNat]; omega
  have h1 : bat (slotB s) 1 = (s.f / 2 ^ 16) % 256 := by show ((u8 (s.f / 2 ^ 16)).toNat : Int) = _; rw [u8_toNat]
  have h2 : bat (slotB s) 2 = (s.f / 2 ^ 8) % 256 := by show ((u8 (s.f / 2 ^ 8)).toNat : Int) = _; rw [u8_toNat]
  have h3 : bat (slotB s) 3 = s.f % 256 := by show ((u8 s.f).toNat : Int) = _; rw [u8_toNat]
  have h4 : bat (slotB s) 4 = (s.b / 2 ^ 8) % 256 := by show ((u8 (s.b / 2 ^ 8)).toNat : Int) = _; rw [u8_toNat]
  have h5 : bat (slotB s) 5 = s.b % 256 := by show ((u8 s.b).toNat : Int) = _; rw [u8_toNat]
  have hs : isSlot ⟨s.e, s.n, 0, 1, slotB s, 0⟩ = true := by
    unfold isSlot; dsimp only; rw [h0, show (slotB s).length = 6 from rfl, decide_eq_true hh.2]
    rfl
  have he : slotOf ⟨s.e, s.n, 0, 1, slotB s, 0⟩ = s := by
    unfold slotOf; dsimp only; rw [h0, h1, h2, h3, h4, h5]
    have e1 : s.f / 2 ^ 16 % 256 * 2 ^ 16 + s.f / 2 ^ 8 % 256 * 2 ^ 8 + s.f % 256 = s.f := by omega
    have e2 : s.b / 2 ^ 8 % 256 * 2 ^ 8 + s.b % 256 = s.b := by omega
    rw [e1, e2]
  unfold slotAt; rw [ho, hs, if_pos rfl, he]
end Go.Proofs.YtadgbifmiooikaaGreatX
namespace Go.Proofs.YtadgbifmiooikaaGreatX
set_option linter.unusedVariables false
set_option linter.unusedSimpArgs false
open Go Go.RowKit Go.Proofs
set_option maxRecDepth 100000 in
set_option maxHeartbeats 1000000 in
theorem fits_spec {w0 w : World} {I : Imm} {L Ld : Own} {d : Value} {S : DS} (hd : DiskO d S Ld) (hst : St w0 w I (Ld ++ L)) :
    Calls Tryz.prog 39 #[d] w fun e w' => e = .returned (.bool (decide ((S.secs.length : Int) = 514))) ∧ St w0 w' I (Ld ++ L) := by
  refine enter Tryz.func39 rfl (N := 6) rfl rfl ?_
  simp only [zA, zB, zC, zD, zE, Nat.reduceAdd]
  have hle := Imm.le.refl I; refine zR <| zS rfl rfl <| zN <| zm rfl rfl <| zK rfl call40 rfl rfl (len_spec hd hst) ?_; clear hst; rintro e w ⟨rfl, hst⟩; refine ⟨_, rfl, ?_⟩; refine z1 rfl (runs_eqI rfl rfl) <| zS rfl rfl <| zM <| CW.ret <| z9 rfl rfl ?_; exact ⟨rfl, hst⟩
set_option maxRecDepth 100000 in
set_option maxHeartbeats 1000000 in
theorem begin_spec {w0 w : World} {I : Imm} {L : Own} (hst : St w0 w I L) (h : Int) (hh : 0 ≤ h ∧ h ≤ 1) :
    Calls Tryz.prog 45 #[.int .i64 h] w fun e w' => e = .returned (.int .i64 (beginR h)) ∧ St w0 w' I L := by
  refine enter Tryz.func45 rfl (N := 6) rfl rfl ?_
  simp only [zA, zB, zC, zD, zE, Nat.reduceAdd]
  have hle := Imm.le.refl I; refine zR <| zS rfl rfl <| zN <| zm rfl rfl <| z1 rfl (runs_mul rfl rfl (by omega)) ?_; refine z1 rfl (runs_add rfl rfl (by omega)) ?_; refine zS rfl rfl <| zM <| CW.ret <| z9 rfl rfl ?_; exact ⟨rfl, hst⟩
set_option maxRecDepth 100000 in
set_option maxHeartbeats 1000000 in
theorem left_spec {w0 w : World} {I : Imm} {L : Own} (hst : St w0 w I L) (a h : Int) (hh : 0 ≤ h ∧ h ≤ 1) (ha : 0 ≤ a ∧ a ≤ 1000) :
    Calls Tryz.prog 118 #[.int .i64 a, .int .i64 h] w fun e w' => e = .returned (.int .i64 (beginR h + 256 - a)) ∧ St w0 w' I L := by
  have hb : beginR h = 2 + h * 256 := rfl; refine enter Tryz.func118 rfl (N := 10) rfl rfl ?_
  simp only [zA, zB, zC, zD, zE, Nat.reduceAdd]
  have hle := Imm.le.refl I; refine zR <| zS rfl rfl <| zN <| zm rfl rfl <| zK rfl call45 rfl rfl (begin_spec hst h hh) ?_; clear hst; rintro e w ⟨rfl, hst⟩; refine ⟨_, rfl, ?_⟩; refine z1 rfl (runs_add rfl rfl (by omega)) ?_; refine zm rfl rfl <| z1 rfl (runs_sub rfl rfl (by omega)) ?_; refine zS rfl rfl <| zM <| CW.ret <| z9 rfl rfl ?_; exact ⟨rfl, hst⟩
set_option maxRecDepth 100000 in
set_option maxHeartbeats 1000000 in
theorem store_spec {w0 w : World} {I : Imm} {L Ld : Own} {d : Value} {S : DS} (hd : DiskO d S Ld) (hst : St w0 w I (Ld ++ L)) (s : Slot) (hn : i64ok s.n) (hpn : S.pend.length ≤ 1000000) :
    Calls Tryz.prog 43 #[d, .agg (slotV s).toArray] w fun e w' => ∃ I' Ld', Imm.le I I' ∧ e = .returned (.int .i64 (storeR S s).2) ∧ St w0 w' I' (Ld' ++ L) ∧ DiskO d (storeR S s).1 Ld' := by
  unfold i64ok at hn; refine enter Tryz.func43 rfl (N := 54) rfl rfl ?_
  simp only [zA, zB, zC, zD, zE, Nat.reduceAdd]
  have hle := Imm.le.refl I; refine zR <| ze rfl (runs_box rfl hst) ?_; clear hst; rintro _ w ⟨b1, rfl, hst⟩; refine zS rfl rfl <| zN <| zp rfl rfl U88 rfl ti3 rfl <| zl 0 rfl sc3 rfl hst rfl rfl <| z1 rfl (runs_convB (by rw [Tryz.underlying3]; rfl) Tryz.underlying5 rfl) ?_; refine zp rfl rfl U88 rfl ti3 rfl <| zl 0 rfl sc3 rfl hst rfl rfl <| z1 rfl (runs_shrE (n := 16) rfl rfl (by decide)) ?_; refine z1 rfl (runs_convB (by rw [Tryz.underlying3]; rfl) Tryz.underlying5 rfl) ?_; refine zp rfl rfl U88 rfl ti3 rfl <| zl 0 rfl sc3 rfl hst rfl rfl <| z1 rfl (runs_shrE (n := 8) rfl rfl (by decide)) ?_; refine z1 rfl (runs_convB (by rw [Tryz.underlying3]; rfl) Tryz.underlying5 rfl) ?_; refine zp rfl rfl U88 rfl ti3 rfl <| zl 0 rfl sc3 rfl hst rfl rfl <| z1 rfl (runs_convB (by rw [Tryz.underlying3]; rfl) Tryz.underlying5 rfl) ?_; refine zp rfl rfl U88 rfl ti3 rfl <| zl 0 rfl sc3 rfl hst rfl rfl <| z1 rfl (runs_shrE (n := 8) rfl rfl (by decide)) ?_; refine z1 rfl (runs_convB (by rw [Tryz.underlying3]; rfl) Tryz.underlying5 rfl) ?_; refine zp rfl rfl U88 rfl ti3 rfl <| zl 0 rfl sc3 rfl hst rfl rfl <| z1 rfl (runs_convB (by rw [Tryz.underlying3]; rfl) Tryz.underlying5 rfl) ?_; refine ze rfl (runs_litB (bs := [_, _, _, _, _, _]) rfl Tryz.underlying52 ti5 (by decide) rfl rfl rfl hst) ?_; clear hst; rintro u2 w ⟨I2, hI2, hst, h2⟩; replace hle := hle.trans hI2; refine zS rfl rfl <| zN <| zp rfl rfl U88 rfl ti3 rfl <| zl 0 rfl sc3 rfl hst rfl rfl <| zp rfl rfl U88 rfl ti3 rfl <| zl 0 rfl sc3 rfl hst rfl rfl <| z1 rfl (runs_buildF (cells := [_, _]) bz124 rfl rfl rfl rfl rfl) <| zm rfl rfl <| zK rfl call67 rfl rfl (seal_spec hst s.e s.n 0 1 h2 (by show 6 ≤ _; decide)) ?_; clear hst; rintro e w ⟨I3, vS, hI3, rfl, hst, hS⟩; replace hS := (show RdB I3 vS (if sealM s.e s.n 0 1 (slotB s) then slotX s else []) from hS); have hsm := slot_seal s; replace hsm : sealM s.e s.n 0 1 (slotB s) = mayM s.e s.n := hsm; replace h2 := h2.mono hI3; replace hle := hle.trans hI3; refine ⟨_, rfl, ?_⟩; refine zm rfl rfl <| zx rfl rfl rfl <| zx rfl rfl rfl <| zS rfl rfl <| zS rfl rfl <| zM <| zk <| zR <| zm rfl rfl <| z1 rfl (runs_neI rfl rfl) ?_; refine zM ?_; refine zb rfl (fun hc42 => ?_) (fun hc42 => ?_)
  · have hcb42 := hc42; (try simp only [dY, dF] at hc42)
    have hm : mayM s.e s.n = false := by
      cases hm : mayM s.e s.n
      · rfl
      · exact absurd (by show (if sealM s.e s.n 0 1 (slotB s) = true then (0 : Int) else 1) = 0; rw [hsm, hm]; rfl) hc42
    refine zR <| zS rfl rfl <| zM <| CW.ret <| zr <| z9 rfl rfl ?_
    have hr : storeR S s = (S, 5) := by unfold storeR; rw [if_pos hm]
    rw [hr]; exact ⟨_, Ld, hle, rfl, hst.drop1, hd⟩
  · have hcb42 := hc42; (try simp only [dY, dF] at hc42)
    have hm : mayM s.e s.n = true := by
      cases hm : mayM s.e s.n
      · exfalso
        have h : (if sealM s.e s.n 0 1 (slotB s) = true then (0 : Int) else 1) = 0 := Decidable.of_not_not hc42; rw [hsm, hm] at h; exact absurd h (by decide)
      · rfl
    rw [hsm, hm, if_pos rfl] at hS; refine zj <| za <| zk <| zR <| zm rfl rfl <| zp rfl rfl U88 rfl ti3 rfl <| zl 0 rfl sc3 rfl hst rfl rfl <| z1 rfl (runs_rem rfl rfl (by omega)) ?_; refine zm rfl rfl <| zK rfl call41 rfl rfl (write_spec hd (hst.perm List.perm_middle.symm) (s.n.tmod 2) hS hpn) ?_; clear hst; rintro e w ⟨I4, Ld1, hI4, rfl, hst, hd1⟩; replace hst := hst.perm List.perm_middle; replace h2 := h2.mono hI4; replace hS := hS.mono hI4; replace hle := hle.trans hI4; refine ⟨_, rfl, ?_⟩; refine zS rfl rfl <| zN <| zm rfl rfl <| z1 rfl (runs_neI rfl rfl) <| zM <| zb rfl (fun hc50 => ?_) (fun hc50 => ?_)
    · have hcb50 := hc50; (try simp only [dY, dF] at hc50); refine zR <| zm rfl rfl <| zS rfl rfl <| zM <| CW.ret <| zr <| z9 rfl rfl ?_
      have hr : storeR S s = writeR S (s.n.tmod 2) (slotX s) := by unfold storeR; rw [if_neg (by rw [hm]; decide), if_pos (by simpa using hc50)]
      rw [hr]; exact ⟨_, Ld1, hle, rfl, hst.drop1, hd1⟩
    · have hcb50 := hc50; (try simp only [dY, dF] at hc50); refine zj <| za <| zR <| zm rfl rfl <| zK rfl call42 rfl rfl (flush_spec hd1 (hst.perm List.perm_middle.symm)) ?_; clear hst; rintro e w ⟨Ld2, rfl, hst, hd2⟩; replace hst := hst.perm List.perm_middle; refine ⟨_, rfl, ?_⟩; refine zS rfl rfl <| zM <| CW.ret <| z9 rfl rfl ?_
      have hr : storeR S s = flushR (writeR S (s.n.tmod 2) (slotX s)).1 := by unfold storeR; rw [if_neg (by rw [hm]; decide), if_neg (by simpa using hc50)]
      rw [hr]; exact ⟨_, Ld2, hle, rfl, hst.drop1, hd2⟩
set_option maxRecDepth 100000 in
set_option maxHeartbeats 1000000 in
theorem room_spec {w0 w : World} {I : Imm} {L Ld : Own} {d : Value} {lb : Nat} {G : LG} (hst : St w0 w I ((lb, .cells (logV d G).toArray 92) :: (Ld ++ L))) (hh : 0 ≤ G.s.h ∧ G.s.h ≤ 1) (ha : 0 ≤ G.at_ ∧ G.at_ ≤ 1000) :
    Calls Tryz.prog 79 #[.pointer (some ⟨lb, 0, none⟩)] w fun e w' => e = .returned (.int .i64 (beginR G.s.h + 256 - G.at_)) ∧ St w0 w' I ((lb, .cells (logV d G).toArray 92) :: (Ld ++ L)) := by
  refine enter Tryz.func79 rfl (N := 13) rfl rfl ?_
  simp only [zA, zB, zC, zD, zE, Nat.reduceAdd]
  have hle := Imm.le.refl I; refine zR <| zS rfl rfl <| zM <| zk ?_; refine CW.drawSt hst (.q 0 (.q 1 (.q 2 (.q 3 (.q 4 (.q 5 (.q 6 (.q 7 (.q 8 (.l 9 (.q 10 .nil))))))))))) follows (by kernel_rfl) (fun w hst => ?_); refine ym rfl rfl rfl <| yc rfl rfl rfl <| yp rfl rfl rfl U92 rfl ti3 rfl <| yl 0 rfl rfl sc3 rfl rfl rfl <| ym rfl rfl rfl <| yc rfl rfl rfl <| yp rfl rfl rfl U92 rfl ti88 rfl <| yp rfl rfl rfl U88 rfl ti3 rfl <| yl 0 rfl rfl sc3 rfl rfl rfl <| yC rfl rfl call118 rfl rfl (left_spec hst G.at_ G.s.h hh ha) ?_; clear hst; rintro e w ⟨rfl, hst⟩; refine ⟨_, rfl, FSt.ofA hst (Imm.le.refl _), ?_⟩; refine yS rfl rfl rfl <| DRW.done <| za <| CW.ret <| z9 rfl rfl ?_; exact ⟨rfl, hst⟩
theorem load_none {S : DS} {a : Int} (hm : mayR S a = 0) (h : ¬ ((openR (readR S a)).err = 0 ∧ (openR (readR S a)).p = 0 ∧ (openR (readR S a)).n = 1 ∧ (openR (readR S a)).b.length = 6 ∧ bat (openR (readR S a)).b 0 ≤ 1)) : loadR S a = (slot0, false, 0) := by
  unfold loadR slotAt isSlot; rw [if_neg (by omega), if_neg]
  simp only [Bool.and_eq_true, decide_eq_true_eq]
  exact h
theorem load_some {S : DS} {a : Int} (hm : mayR S a = 0) (h : (openR (readR S a)).err = 0 ∧ (openR (readR S a)).p = 0 ∧ (openR (readR S a)).n = 1 ∧ (openR (readR S a)).b.length = 6 ∧ bat (openR (readR S a)).b 0 ≤ 1) : loadR S a = (slotOf (openR (readR S a)), true, 0) := by
  unfold loadR slotAt isSlot; rw [if_neg (by omega), if_pos]
  simp only [Bool.and_eq_true, decide_eq_true_eq]
  exact h
set_option maxRecDepth 100000 in
set_option maxHeartbeats 1000000 in
theorem load_spec {w0 w : World} {I : Imm} {L Ld : Own} {d : Value} {S : DS} (hd : DiskO d S Ld) (hst : St w0 w I (Ld ++ L)) (at_ : Int) :
    Calls Tryz.prog 68 #[d, .int .i64 at_] w fun e w' => ∃ I', Imm.le I I' ∧ e = .returned (.tuple #[.agg (slotV (loadR S at_).1).toArray, .bool (loadR S at_).2.1, .int .i64 (loadR S at_).2.2]) ∧ St w0 w' I' (Ld ++ L) := by
  have hok : DOk S := by obtain ⟨_, _, _, _, _, _, _, _, _, hok⟩ := hd; exact hok
  refine enter Tryz.func68 rfl (N := 88) rfl rfl ?_
  simp only [zA, zB, zC, zD, zE, Nat.reduceAdd]
  have hle := Imm.le.refl I; refine zR <| ze rfl (runs_alloc ti88 hst) ?_; clear hst; rintro _ w ⟨b1, rfl, hst⟩; refine zS rfl rfl <| zS rfl rfl <| zN <| zm rfl rfl <| zm rfl rfl <| zK rfl call109 rfl rfl (read_spec hd (hst.perm List.perm_middle.symm) at_) ?_; clear hst; rintro e w ⟨I2, vX, hI2, rfl, hst, hX⟩; replace hst := hst.perm List.perm_middle; replace hle := hle.trans hI2; refine ⟨_, rfl, ?_⟩; refine zm rfl rfl <| zx rfl rfl rfl <| zx rfl rfl rfl <| zS rfl rfl <| zS rfl rfl <| zM <| zk <| zR <| zm rfl rfl <| z1 rfl (runs_neI rfl rfl) ?_; refine zM ?_; refine zb rfl (fun hc20 => ?_) (fun hc20 => ?_)
  · have hcb20 := hc20; (try simp only [dY, dF] at hc20)
    have hr : loadR S at_ = (slot0, false, mayR S at_) := by unfold loadR; rw [if_pos hc20]
    refine zR <| z1 rfl (runs_buildF (cells := [_, _, _, _, _]) bz88 rfl rfl rfl rfl rfl) <| zm rfl rfl ?_; refine zw 0 ti88 rfl rfl hst rfl rfl rfl rfl ?_; clear hst; rintro w hst; (try simp only [sZ, sS] at hst); refine zS rfl rfl <| zS rfl rfl <| zM <| CW.ret <| zr <| AQ.retL (rs := [.cell 4 88, .tmp 5, .tmp 6]) (vs := [_, _, _]) rfl ⟨⟨_, rfl, hst.loadN (vs := [_, _, _, _, _]) (k := 0) ag88 ti88 rfl rfl rfl⟩, rfl, rfl, trivial⟩ (by simp) ?_; rw [hr]; exact ⟨_, hle, rfl, hst.drop1⟩
  · have hcb20 := hc20; (try simp only [dY, dF] at hc20); have hm0 : mayR S at_ = 0 := Decidable.of_not_not hc20; rw [if_pos hm0] at hX; have hlim := mayR_ok hm0; have hXl := readR_len hok hlim.2.1 hlim.2.2; refine zj <| za <| zR <| zm rfl rfl <| zK rfl call110 rfl rfl (open_spec hst hX (by omega)) ?_; clear hst; rintro e w ⟨I4, vO, hI4, rfl, hst, hO⟩; replace hX := hX.mono hI4; replace hle := hle.trans hI4; refine ⟨_, rfl, ?_⟩; refine zm rfl rfl <| zx rfl rfl rfl <| zx rfl rfl rfl <| zx rfl rfl rfl <| zx rfl rfl rfl <| zx rfl rfl rfl <| ze rfl (runs_alloc ti124 hst) ?_; clear hst; rintro _ w ⟨b5, rfl, hst⟩; refine zw 0 ti124 rfl rfl hst rfl rfl rfl rfl ?_; clear hst; rintro w hst; (try simp only [sZ, sS] at hst); refine zS rfl rfl <| zS rfl rfl <| zS rfl rfl <| zS rfl rfl <| zM <| zk <| zR <| zm rfl rfl <| z1 rfl (runs_neI rfl rfl) <| zm rfl rfl ?_; refine zi (t := 33) rfl (fun hb33 => ?_) (fun hb33 => ?_)
    · have hb33p := hb33; (try simp only [dY, dF] at hb33p); refine zG rfl rfl rfl rfl rfl rfl hb33 <| zt rfl rfl hb33 rfl <| zm rfl rfl <| zG rfl rfl rfl rfl rfl rfl rfl <| zt rfl rfl rfl rfl <| zm rfl rfl <| zH rfl rfl rfl rfl rfl rfl rfl rfl rfl <| zt rfl rfl rfl rfl <| zm rfl rfl <| zH rfl rfl rfl rfl rfl rfl rfl rfl rfl ?_; refine zf rfl rfl rfl rfl rfl <| zt rfl rfl rfl rfl <| zM ?_; refine CW.cond_true rfl ?_; refine zR <| z1 rfl (runs_buildF (cells := [_, _, _, _, _]) bz88 rfl rfl rfl rfl rfl) ?_; refine zw 1 ti88 rfl rfl hst rfl rfl rfl rfl ?_; clear hst; rintro w hst; (try simp only [sZ, sS] at hst); refine zS rfl rfl <| zS rfl rfl <| zM <| CW.ret <| zr <| AQ.retL (rs := [.cell 4 88, .tmp 5, .tmp 6]) (vs := [_, _, _]) rfl ⟨⟨_, rfl, hst.loadN (vs := [_, _, _, _, _]) (k := 1) ag88 ti88 rfl rfl rfl⟩, rfl, rfl, trivial⟩ (by simp) ?_; rw [load_none hm0 (by omega)]; exact ⟨_, hle, rfl, hst.drop1.drop1⟩
    · have hb33p := hb33; (try simp only [dY, dF] at hb33p); refine zo rfl rfl rfl rfl hb33 <| zm rfl rfl <| zo rfl rfl rfl rfl hb33 <| z1 rfl (runs_neI rfl rfl) <| zn rfl rfl hb33 rfl <| zm rfl rfl <| zi (t := 37) rfl (fun hb37 => ?_) (fun hb37 => ?_)
      · have hb37p := hb37; (try simp only [dY, dF] at hb37p); refine zG rfl rfl rfl rfl rfl rfl hb37 <| zt rfl rfl hb37 rfl <| zm rfl rfl <| zH rfl rfl rfl rfl rfl rfl rfl rfl rfl <| zt rfl rfl rfl rfl <| zm rfl rfl <| zH rfl rfl rfl rfl rfl rfl rfl rfl rfl <| zf rfl rfl rfl rfl rfl <| zt rfl rfl rfl rfl <| zM ?_; refine CW.cond_true rfl ?_; refine zR <| z1 rfl (runs_buildF (cells := [_, _, _, _, _]) bz88 rfl rfl rfl rfl rfl) ?_; refine zw 1 ti88 rfl rfl hst rfl rfl rfl rfl ?_; clear hst; rintro w hst; (try simp only [sZ, sS] at hst); refine zS rfl rfl <| zS rfl rfl <| zM <| CW.ret <| zr <| AQ.retL (rs := [.cell 4 88, .tmp 5, .tmp 6]) (vs := [_, _, _]) rfl ⟨⟨_, rfl, hst.loadN (vs := [_, _, _, _, _]) (k := 1) ag88 ti88 rfl rfl rfl⟩, rfl, rfl, trivial⟩ (by simp) ?_; rw [load_none hm0 (by omega)]; exact ⟨_, hle, rfl, hst.drop1.drop1⟩
      · have hb37p := hb37; (try simp only [dY, dF] at hb37p); refine zo rfl rfl rfl rfl hb37 <| zm rfl rfl <| zo rfl rfl rfl rfl hb37 <| z1 rfl (runs_neI rfl rfl) <| zn rfl rfl hb37 rfl <| zm rfl rfl <| zi (t := 41) rfl (fun hb41 => ?_) (fun hb41 => ?_)
        · have hb41p := hb41; (try simp only [dY, dF] at hb41p); refine zH rfl rfl rfl rfl rfl rfl rfl rfl hb41 <| zt rfl rfl hb41 rfl <| zm rfl rfl <| zH rfl rfl rfl rfl rfl rfl rfl rfl rfl <| zf rfl rfl rfl rfl rfl <| zt rfl rfl rfl rfl <| zM <| CW.cond_true rfl ?_; refine zR <| z1 rfl (runs_buildF (cells := [_, _, _, _, _]) bz88 rfl rfl rfl rfl rfl) ?_; refine zw 1 ti88 rfl rfl hst rfl rfl rfl rfl ?_; clear hst; rintro w hst; (try simp only [sZ, sS] at hst); refine zS rfl rfl <| zS rfl rfl <| zM <| CW.ret <| zr <| AQ.retL (rs := [.cell 4 88, .tmp 5, .tmp 6]) (vs := [_, _, _]) rfl ⟨⟨_, rfl, hst.loadN (vs := [_, _, _, _, _]) (k := 1) ag88 ti88 rfl rfl rfl⟩, rfl, rfl, trivial⟩ (by simp) ?_; rw [load_none hm0 (by omega)]; exact ⟨_, hle, rfl, hst.drop1.drop1⟩
        · have hb41p := hb41; (try simp only [dY, dF] at hb41p); refine zo rfl rfl rfl rfl hb41 <| zm rfl rfl <| zo rfl rfl rfl rfl hb41 <| z1 rfl (RdL.len Tryz.underlying52 rfl hO) <| zo rfl rfl rfl rfl hb41 <| z1 rfl (runs_neI rfl rfl) <| zn rfl rfl hb41 rfl <| zm rfl rfl <| zi (t := 46) rfl (fun hb46 => ?_) (fun hb46 => ?_)
          · have hb46p := hb46; (try simp only [dY, dF] at hb46p); refine zH rfl rfl rfl rfl rfl rfl rfl rfl hb46 <| zf rfl rfl rfl rfl hb46 <| zt rfl rfl hb46 rfl <| zM <| CW.cond_true rfl ?_; refine zR <| z1 rfl (runs_buildF (cells := [_, _, _, _, _]) bz88 rfl rfl rfl rfl rfl) ?_; refine zw 1 ti88 rfl rfl hst rfl rfl rfl rfl ?_; clear hst; rintro w hst; (try simp only [sZ, sS] at hst); refine zS rfl rfl <| zS rfl rfl <| zM <| CW.ret <| zr <| AQ.retL (rs := [.cell 4 88, .tmp 5, .tmp 6]) (vs := [_, _, _]) rfl ⟨⟨_, rfl, hst.loadN (vs := [_, _, _, _, _]) (k := 1) ag88 ti88 rfl rfl rfl⟩, rfl, rfl, trivial⟩ (by simp) ?_; rw [load_none hm0 (by omega)]; exact ⟨_, hle, rfl, hst.drop1.drop1⟩
          · have hb46p := hb46; (try simp only [dY, dF] at hb46p); refine zo rfl rfl rfl rfl hb46 <| zm rfl rfl <| zo rfl rfl rfl rfl hb46 <| z1 rfl (RdL.indexAddr Tryz.underlying52 ti5 (by decide) rfl rfl (by assumption) (by omega)) ?_; refine zo rfl rfl rfl rfl hb46 <| z1 rfl (runs_load1 sc5 rfl (hst.cell_imm (RdB.at (by assumption) (by omega) (by omega)))) ?_; refine zo rfl rfl rfl rfl hb46 <| z1 rfl (runs_gtr rfl rfl) <| zn rfl rfl hb46 rfl <| zM <| zb rfl (fun hc51 => ?_) (fun hc51 => ?_)
            · have hcb51 := hc51; (try simp only [dY, dF] at hc51); refine zR <| z1 rfl (runs_buildF (cells := [_, _, _, _, _]) bz88 rfl rfl rfl rfl rfl) ?_; refine zw 1 ti88 rfl rfl hst rfl rfl rfl rfl ?_; clear hst; rintro w hst; (try simp only [sZ, sS] at hst); refine zS rfl rfl <| zS rfl rfl <| zM <| CW.ret <| zr <| AQ.retL (rs := [.cell 4 88, .tmp 5, .tmp 6]) (vs := [_, _, _]) rfl ⟨⟨_, rfl, hst.loadN (vs := [_, _, _, _, _]) (k := 1) ag88 ti88 rfl rfl rfl⟩, rfl, rfl, trivial⟩ (by simp) ?_; rw [load_none hm0 (by omega)]; exact ⟨_, hle, rfl, hst.drop1.drop1⟩
            · have hcb51 := hc51; (try simp only [dY, dF] at hc51); refine zj <| za <| zk ?_; refine CW.draw (FSt w0 I4 ((b5, .cells #[.int .i64 (openR (readR S at_)).e, .int .i64 (openR (readR S at_)).q] 124) :: (Ld ++ L))) (.q 0 (.q 1 (.q 2 (.q 3 (.q 4 (.q 5 (.q 6 (.q 7 (.q 8 (.q 9 (.q 10 (.q 11 (.q 12 (.q 13 (.q 14 (.q 15 (.q 16 (.q 17 (.q 18 (.q 19 (.q 20 (.q 21 (.q 22 (.q 23 (.q 24 (.q 25 (.q 26 (.q 27 (.q 28 (.q 29 (.q 30 (.q 31 (.q 32 (.q 33 (.q 34 (.l 35 (.q 36 (.q 37 .nil)))))))))))))))))))))))))))))))))))))) follows (by kernel_rfl) ⟨_, Imm.le.refl _, hst.draw.sub ((List.sublist_cons_self _ _).cons_cons _)⟩ ?_; replace hst := hst.draw; refine yp rfl rfl rfl U124 rfl ti3 rfl <| yl 0 rfl rfl sc3 rfl rfl rfl <| yp rfl rfl rfl U124 rfl ti3 rfl <| yl 0 rfl rfl sc3 rfl rfl rfl <| ym rfl rfl rfl <| DRW.q rfl rfl (fun w' hF => RdL.indexAddr Tryz.underlying52 ti5 (by decide) rfl rfl (by assumption) (by omega)) ?_; refine DRW.q rfl rfl (FSt.load1 sc5 rfl (RdB.at (by assumption) (by omega) (by omega))) ?_; refine DRW.q rfl rfl (fun w' hF => runs_conv64 (by rw [Tryz.underlying5]; rfl) Tryz.underlying3 rfl (bat_ok _ _)) ?_; refine ym rfl rfl rfl <| DRW.q rfl rfl (fun w' hF => RdL.indexAddr Tryz.underlying52 ti5 (by decide) rfl rfl (by assumption) (by omega)) ?_; refine DRW.q rfl rfl (FSt.load1 sc5 rfl (RdB.at (by assumption) (by omega) (by omega))) ?_; refine DRW.q rfl rfl (fun w' hF => runs_conv64 (by rw [Tryz.underlying5]; rfl) Tryz.underlying3 rfl (bat_ok _ _)) ?_; refine DRW.q rfl rfl (fun w' hF => runs_shlBat (n := 16) rfl rfl (by decide)) ?_; refine ym rfl rfl rfl <| DRW.q rfl rfl (fun w' hF => RdL.indexAddr Tryz.underlying52 ti5 (by decide) rfl rfl (by assumption) (by omega)) ?_; refine DRW.q rfl rfl (FSt.load1 sc5 rfl (RdB.at (by assumption) (by omega) (by omega))) ?_; refine DRW.q rfl rfl (fun w' hF => runs_conv64 (by rw [Tryz.underlying5]; rfl) Tryz.underlying3 rfl (bat_ok _ _)) ?_; refine DRW.q rfl rfl (fun w' hF => runs_shlBat (n := 8) rfl rfl (by decide)) ?_; refine DRW.q rfl rfl (fun w' hF => runs_or3a rfl rfl) ?_; refine ym rfl rfl rfl <| DRW.q rfl rfl (fun w' hF => RdL.indexAddr Tryz.underlying52 ti5 (by decide) rfl rfl (by assumption) (by omega)) ?_; refine DRW.q rfl rfl (FSt.load1 sc5 rfl (RdB.at (by assumption) (by omega) (by omega))) ?_; refine DRW.q rfl rfl (fun w' hF => runs_conv64 (by rw [Tryz.underlying5]; rfl) Tryz.underlying3 rfl (bat_ok _ _)) ?_; refine DRW.q rfl rfl (fun w' hF => runs_or3b rfl rfl) ?_; refine ym rfl rfl rfl <| DRW.q rfl rfl (fun w' hF => RdL.indexAddr Tryz.underlying52 ti5 (by decide) rfl rfl (by assumption) (by omega)) ?_; refine DRW.q rfl rfl (FSt.load1 sc5 rfl (RdB.at (by assumption) (by omega) (by omega))) ?_; refine DRW.q rfl rfl (fun w' hF => runs_conv64 (by rw [Tryz.underlying5]; rfl) Tryz.underlying3 rfl (bat_ok _ _)) ?_; refine DRW.q rfl rfl (fun w' hF => runs_shlBat (n := 8) rfl rfl (by decide)) ?_; refine ym rfl rfl rfl <| DRW.q rfl rfl (fun w' hF => RdL.indexAddr Tryz.underlying52 ti5 (by decide) rfl rfl (by assumption) (by omega)) ?_; refine DRW.q rfl rfl (FSt.load1 sc5 rfl (RdB.at (by assumption) (by omega) (by omega))) ?_; refine DRW.q rfl rfl (fun w' hF => runs_conv64 (by rw [Tryz.underlying5]; rfl) Tryz.underlying3 rfl (bat_ok _ _)) ?_; refine DRW.q rfl rfl (fun w' hF => runs_or2 rfl rfl) ?_; refine DRW.q rfl rfl (fun w' hF => runs_buildF (cells := [_, _, _, _, _]) bz88 rfl rfl rfl rfl rfl) ?_; refine y0 rfl (runs_storeW ti88 rfl rfl hst (k := 1) rfl rfl rfl (NoFz.zero _) rfl) ?_; clear hst; rintro w hst; (try simp only [sZ, sS] at hst)
              refine ⟨FSt.of hst (Imm.le.refl _) ((List.sublist_cons_self _ _).cons_cons _), ?_⟩; refine yS rfl rfl rfl <| yS rfl rfl rfl <| DRW.done <| za <| CW.ret <| AQ.retL (rs := [.cell 4 88, .tmp 5, .tmp 6]) (vs := [_, _, _]) rfl ⟨⟨_, rfl, hst.loadN (vs := [_, _, _, _, _]) (k := 1) ag88 ti88 rfl rfl rfl⟩, rfl, rfl, trivial⟩ (by simp) ?_; rw [load_some hm0 (by omega)]; exact ⟨_, hle, rfl, hst.drop1.drop1⟩
def bestTo (S : DS) : Nat → Option Slot
  | 0 => none
  | k + 1 => better (bestTo S k) (slotAt (readR S (k : Int)))
def bestS (o : Option Slot) : Slot := o.getD slot0
theorem newest_bad {S : DS} {k : Nat} (hk : k < 2) (h0 : ∀ j, j < k → mayR S (j : Int) = 0) (h : mayR S (k : Int) ≠ 0) : newestR S = (slot0, mayR S (k : Int)) := by
  unfold newestR; unfold mayR at h h0 ⊢
  by_cases hd : S.down = true
  · rw [if_pos hd, if_pos hd]
  · rw [if_neg hd] at h ⊢; rw [if_neg hd]
    by_cases hl : S.secs.length < 2
    · rw [if_pos hl, if_pos (Decidable.byContradiction fun hc => h (if_neg hc))]
    · exact absurd (if_neg (by omega)) h
theorem newest_end {S : DS} (h0 : ∀ j, j < 2 → mayR S ((j : Nat) : Int) = 0) : newestR S = match bestTo S 2 with
  | some s => (s, 0)
  | none => (slot0, 3) := by
  have h1 := mayR_ok (h0 1 (by decide)); unfold newestR; rw [if_neg (by rw [h1.1]; decide), if_neg (by omega)]
  have : bestTo S 2 = better (slotAt (readR S 0)) (slotAt (readR S 1)) := by
    show better (better none (slotAt (readR S 0))) (slotAt (readR S 1)) = _
    rfl
  rw [this]
  try (cases better (slotAt (readR S 0)) (slotAt (readR S 1)) <;> rfl)
theorem load_er {S : DS} {a : Int} : (loadR S a).2.2 = mayR S a := by
  unfold loadR
  split
  · rfl
  · cases slotAt (readR S a) <;> (show 0 = mayR S a; omega)
theorem load_ok {S : DS} {a : Int} (hm : mayR S a = 0) : loadR S a = (bestS (slotAt (readR S a)), (slotAt (readR S a)).isSome, 0) := by
  unfold loadR; rw [if_neg (by omega)]
  cases slotAt (readR S a) <;> rfl
theorem better_take {x y : Option Slot} (h : y.isSome = true) (h2 : x.isSome = false ∨ (bestS x).n < (bestS y).n) : bestS (better x y) = bestS y ∧ (better x y).isSome = true := by
  cases x with
  | none => exact ⟨rfl, h⟩
  | some a => cases y with
    | none => cases h
    | some b =>
      have : a.n < b.n := by
        rcases h2 with h2 | h2
        · cases h2
        · exact h2
      show bestS (if b.n > a.n then some b else some a) = b ∧ _
      rw [show better (some a) (some b) = some b from if_pos this]; exact ⟨if_pos this ▸ rfl, rfl⟩
theorem better_keep {x y : Option Slot} (h : y.isSome = false ∨ x.isSome = true ∧ ¬ (bestS x).n < (bestS y).n) : better x y = x := by
  cases x with
  | none => cases y with
    | none => rfl
    | some b => rcases h with h | h <;> cases h; rename_i h1 h2; cases h1
  | some a => cases y with
    | none => rfl
    | some b =>
      rcases h with h | h
      · cases h
      · exact if_neg h.2
set_option maxRecDepth 100000 in
set_option maxHeartbeats 1000000 in
theorem newest_spec {w0 w : World} {I : Imm} {L Ld : Own} {d : Value} {S : DS} (hd : DiskO d S Ld) (hst : St w0 w I (Ld ++ L)) :
    Calls Tryz.prog 44 #[d] w fun e w' => ∃ I', Imm.le I I' ∧ e = .returned (.tuple #[.agg (slotV (newestR S).1).toArray, .int .i64 (newestR S).2]) ∧ St w0 w' I' (Ld ++ L) := by
  refine enter Tryz.func44 rfl (N := 42) rfl rfl ?_
  simp only [zA, zB, zC, zD, zE, Nat.reduceAdd]
  have hle := Imm.le.refl I; refine zR <| ze rfl (runs_alloc ti88 hst) ?_; clear hst; rintro _ w ⟨b1, rfl, hst⟩; refine zS rfl rfl <| zN <| ze rfl (runs_alloc ti88 hst) ?_; clear hst; rintro _ w ⟨b2, rfl, hst⟩; refine zN <| zS rfl rfl <| zM <| zk <| zR <| zm rfl rfl <| zM <| CW.block <| CW.loop (Nat × Imm) (fun x w => I.le x.2 ∧ St w0 w x.2 ((b2, .cells (slotV (bestS (bestTo S x.1))).toArray 88) :: (b1, .cells (slotV slot0).toArray 88) :: (Ld ++ L)) ∧ x.1 ≤ 2 ∧ ∀ j, j < x.1 → mayR S (j : Int) = 0) (fun x => [(0, d), (2, .pointer (some ⟨b1, 0, none⟩)), (4, .pointer (some ⟨b2, 0, none⟩)), (5, .bool (bestTo S x.1).isSome), (10, .int .i64 (x.1 : Int))]) (fun x => 2 - x.1) ⟨(0, _), ⟨hle, hst, Nat.zero_le _, fun j h => absurd h (Nat.not_lt_zero _)⟩, ⟨rfl, rfl, rfl, rfl, rfl, trivial⟩⟩ ?_; clear hle hst; rintro ⟨k, IK⟩ w ⟨hle, hst, hk, h0⟩; dsimp only at hle hst hk h0 ⊢; refine zR <| z1 rfl (runs_lss rfl rfl) <| zM <| zk <| zb rfl (fun hc11 => ?_) (fun hc11 => ?_)
  · have hcb11 := hc11; (try simp only [dY, dF] at hc11); refine zj <| za <| zk <| CW.block <| zR <| zm rfl rfl <| zS rfl rfl <| zN <| zm rfl rfl <| zm rfl rfl ?_; refine zK rfl call68 rfl rfl (load_spec hd (hst.perm (perm_two2 _ _ Ld L)) (k : Int)) ?_; clear hst; rintro e w ⟨I3, hI3, rfl, hst⟩; replace hst := hst.perm (perm_two2 _ _ Ld L).symm; replace hle := hle.trans hI3; refine ⟨_, rfl, ?_⟩; refine zm rfl rfl <| zx rfl rfl rfl <| zx rfl rfl rfl <| zx rfl rfl rfl <| ze rfl (runs_alloc ti88 hst) ?_; clear hst; rintro _ w ⟨b4, rfl, hst⟩; refine zw 0 ti88 rfl rfl hst rfl rfl rfl rfl ?_; clear hst; rintro w hst; (try simp only [sZ, sS] at hst); refine zS rfl rfl <| zS rfl rfl <| zM <| zk <| zR <| zm rfl rfl <| z1 rfl (runs_neI rfl rfl) <| zM <| zb rfl (fun hc21 => ?_) (fun hc21 => ?_)
    · have hcb21 := hc21; (try simp only [dY, dF] at hc21)
      have hm : mayR S (k : Int) ≠ 0 := by rw [← load_er]; exact hc21
      have hr := newest_bad (by omega) h0 hm; rw [load_er]; refine zR <| z1 rfl (runs_buildF (cells := [_, _, _, _, _]) bz88 rfl rfl rfl rfl rfl) <| zm rfl rfl ?_; refine zw 2 ti88 rfl rfl hst rfl rfl rfl rfl ?_; clear hst; rintro w hst; (try simp only [sZ, sS] at hst); refine zS rfl rfl <| zM <| CW.ret <| zr <| AQ.block_ret <| zr <| zr <| AQ.block_ret <| zr <| AQ.retL (rs := [.cell 2 88, .tmp 3]) (vs := [_, _]) rfl ⟨⟨_, rfl, hst.loadN (vs := [_, _, _, _, _]) (k := 2) ag88 ti88 rfl rfl rfl⟩, rfl, trivial⟩ (by simp) ?_; rw [hr]; exact ⟨_, hle, rfl, hst.drop1.drop1.drop1⟩
    · have hcb21 := hc21; (try simp only [dY, dF] at hc21)
      have hm0 : mayR S (k : Int) = 0 := by rw [← load_er]; exact Decidable.of_not_not hc21
      have hlo := load_ok hm0; rw [hlo] at hst ⊢
      have h01 : ∀ j, j < k + 1 → mayR S (j : Int) = 0 := fun j hj => by
        by_cases h : j < k
        · exact h0 j h
        · obtain rfl : j = k := by omega
          exact hm0
      refine zj <| za <| zR <| zm rfl rfl <| zm rfl rfl <| zi (t := 25) rfl (fun hb25 => ?_) (fun hb25 => ?_)
      · have hb25p := hb25; (try simp only [dY, dF] at hb25p); refine zo rfl rfl rfl rfl hb25 <| zm rfl rfl <| zo rfl rfl rfl rfl hb25 <| z1 rfl (runs_not rfl) <| zo rfl rfl rfl rfl hb25 <| zm rfl rfl <| zi (t := 28) rfl (fun hb28 => ?_) (fun hb28 => ?_)
        · have hb28p := hb28; (try simp only [dY, dF] at hb28p); refine zH rfl rfl rfl rfl rfl rfl rfl rfl hb28 <| zG rfl rfl rfl rfl rfl rfl hb28 <| zo rfl rfl rfl rfl hb25 <| zt rfl rfl hb28 rfl <| zt rfl rfl hb25 rfl <| zM <| CW.cond_true rfl ?_; refine zg <| z1 rfl (runs_loadN (vs := [_, _, _, _, _]) ag88 ti88 rfl hst (k := 0) rfl rfl rfl) ?_; refine zw 1 ti88 rfl rfl hst rfl rfl rfl rfl ?_; clear hst; rintro w hst; (try simp only [sZ, sS] at hst); refine zS rfl rfl <| zd <| zh <| za <| zg <| z1 rfl (runs_add rfl rfl (by omega)) ?_; refine zm rfl rfl <| zd ?_; have hb := better_take (x := bestTo S k) hb25 (.inl (by simpa using hb28))
          exact AQ.again (x := (k, IK)) (k + 1, _) ⟨hle, by
            show St _ _ _ ((b2, .cells (slotV (bestS (better (bestTo S k) (slotAt (readR S (k : Int)))))).toArray _) :: _)
            rw [hb.1]
            exact hst.drop1, by dsimp only; omega, h01⟩ ⟨rfl, rfl, rfl, by
            show _ = some (Value.bool (better (bestTo S k) (slotAt (readR S (k : Int)))).isSome)
            rw [hb.2]
            rfl, rfl, trivial⟩ (by dsimp only; omega)
        · have hb28p := hb28; (try simp only [dY, dF] at hb28p); refine zo rfl rfl rfl rfl hb28 <| zp rfl rfl U88 rfl ti3 rfl <| zo rfl rfl rfl rfl hb28 <| zl 0 rfl sc3 rfl hst rfl rfl <| zo rfl rfl rfl rfl hb28 <| zp rfl rfl U88 rfl ti3 rfl <| zo rfl rfl rfl rfl hb28 <| zl 1 rfl sc3 rfl hst rfl rfl <| zo rfl rfl rfl rfl hb28 <| z1 rfl (runs_gtr rfl rfl) ?_; refine zo rfl rfl rfl rfl hb25 <| zn rfl rfl hb28 rfl <| zt rfl rfl hb25 rfl <| zM ?_; refine zb rfl (fun hc35 => ?_) (fun hc35 => ?_)
          · have hcb35 := hc35; (try simp only [dY, dF] at hc35); refine zg <| z1 rfl (runs_loadN (vs := [_, _, _, _, _]) ag88 ti88 rfl hst (k := 0) rfl rfl rfl) ?_; refine zw 1 ti88 rfl rfl hst rfl rfl rfl rfl ?_; clear hst; rintro w hst; (try simp only [sZ, sS] at hst); refine zS rfl rfl <| zd <| zh <| za <| zg <| z1 rfl (runs_add rfl rfl (by omega)) ?_; refine zm rfl rfl <| zd ?_; have hb := better_take (x := bestTo S k) hb25 (.inr (by simpa using hc35))
            exact AQ.again (x := (k, IK)) (k + 1, _) ⟨hle, by
              show St _ _ _ ((b2, .cells (slotV (bestS (better (bestTo S k) (slotAt (readR S (k : Int)))))).toArray _) :: _)
              rw [hb.1]
              exact hst.drop1, by dsimp only; omega, h01⟩ ⟨rfl, rfl, rfl, by
              show _ = some (Value.bool (better (bestTo S k) (slotAt (readR S (k : Int)))).isSome)
              rw [hb.2]
              rfl, rfl, trivial⟩ (by dsimp only; omega)
          · have hcb35 := hc35; (try simp only [dY, dF] at hc35); refine zj <| zh <| za <| zg <| z1 rfl (runs_add rfl rfl (by omega)) ?_; refine zm rfl rfl <| zd ?_; have hb := better_keep (x := bestTo S k) (y := slotAt (readR S (k : Int))) (.inr ⟨by simpa using hb28, by simpa using hc35⟩)
            exact AQ.again (x := (k, IK)) (k + 1, _) ⟨hle, by
              show St _ _ _ ((b2, .cells (slotV (bestS (better (bestTo S k) (slotAt (readR S (k : Int)))))).toArray _) :: _)
              rw [hb]
              exact hst.drop1, by dsimp only; omega, h01⟩ ⟨rfl, rfl, rfl, by
              show _ = some (Value.bool (better (bestTo S k) (slotAt (readR S (k : Int)))).isSome)
              rw [hb]
              rfl, rfl, trivial⟩ (by dsimp only; omega)
      · have hb25p := hb25; (try simp only [dY, dF] at hb25p); refine zH rfl rfl rfl rfl rfl rfl rfl rfl hb25 <| zu rfl rfl rfl rfl ?_; refine zu rfl rfl rfl rfl ?_; refine zu rfl rfl rfl rfl ?_; refine zu rfl rfl rfl rfl ?_; refine zu rfl rfl rfl rfl ?_; refine zf rfl rfl rfl rfl hb25 <| zn rfl rfl hb25 rfl <| zM <| CW.cond_false rfl ?_; refine zj <| zh <| za <| zg <| z1 rfl (runs_add rfl rfl (by omega)) ?_; refine zm rfl rfl <| zd ?_; have hb := better_keep (x := bestTo S k) (y := slotAt (readR S (k : Int))) (.inl hb25)
        exact AQ.again (x := (k, IK)) (k + 1, _) ⟨hle, by
          show St _ _ _ ((b2, .cells (slotV (bestS (better (bestTo S k) (slotAt (readR S (k : Int)))))).toArray _) :: _)
          rw [hb]
          exact hst.drop1, by dsimp only; omega, h01⟩ ⟨rfl, rfl, rfl, by
          show _ = some (Value.bool (better (bestTo S k) (slotAt (readR S (k : Int)))).isSome)
          rw [hb]
          rfl, rfl, trivial⟩ (by dsimp only; omega)
  · have hcb11 := hc11; (try simp only [dY, dF] at hc11); refine CW.exit ?_; refine AQ.past_exit <| AQ.past_exit <| AQ.block_hit <| za <| zk <| zR <| zm rfl rfl <| z1 rfl (runs_not rfl) <| zM <| zb rfl (fun hc39 => ?_) (fun hc39 => ?_)
    · have hcb39 := hc39; (try simp only [dY, dF] at hc39); have h0n := newest_end (S := S) (fun j hj => h0 j (by omega))
      obtain rfl : k = 2 := by omega
      refine zR <| z1 rfl (runs_buildF (cells := [_, _, _, _, _]) bz88 rfl rfl rfl rfl rfl) ?_; refine zw 1 ti88 rfl rfl hst rfl rfl rfl rfl ?_; clear hst; rintro w hst; (try simp only [sZ, sS] at hst); refine zS rfl rfl <| zM <| CW.ret <| zr <| AQ.retL (rs := [.cell 2 88, .tmp 3]) (vs := [_, _]) rfl ⟨⟨_, rfl, hst.loadN (vs := [_, _, _, _, _]) (k := 1) ag88 ti88 rfl rfl rfl⟩, rfl, trivial⟩ (by simp) ?_
      have hno : newestR S = (slot0, 3) := by
        rw [h0n]
        cases hb : bestTo S 2 with
        | none => rfl
        | some s => rw [hb] at hc39; cases hc39
      rw [hno]; exact ⟨_, hle, rfl, hst.drop1.drop1⟩
    · have hcb39 := hc39; (try simp only [dY, dF] at hc39); have h0n := newest_end (S := S) (fun j hj => h0 j (by omega))
      obtain rfl : k = 2 := by omega
      refine zj <| za <| zR <| z1 rfl (runs_loadN (vs := [_, _, _, _, _]) ag88 ti88 rfl hst (k := 0) rfl rfl rfl) ?_; refine zw 1 ti88 rfl rfl hst rfl rfl rfl rfl ?_; clear hst; rintro w hst; (try simp only [sZ, sS] at hst); refine zS rfl rfl <| zM <| CW.ret <| AQ.retL (rs := [.cell 2 88, .tmp 3]) (vs := [_, _]) rfl ⟨⟨_, rfl, hst.loadN (vs := [_, _, _, _, _]) (k := 1) ag88 ti88 rfl rfl rfl⟩, rfl, trivial⟩ (by simp) ?_
      have hno : newestR S = (bestS (bestTo S 2), 0) := by
        rw [h0n]
        cases hb : bestTo S 2 with
        | none => rw [hb] at hc39; cases hc39
        | some s => rfl
      rw [hno]; exact ⟨_, hle, rfl, hst.drop1.drop1⟩
end Go.Proofs.YtadgbifmiooikaaGreatX
namespace Go.Proofs.YtadgbifmiooikaaGreatX
set_option linter.unusedVariables false
set_option linter.unusedSimpArgs false
open Go Go.RowKit
variable {w0 w : World} {I : Imm} {L : Own} {P : Program} {l : Env} {ty : TypeId}
def GrowR (I : Imm) (e : TypeId) (v : Value) (bss : List (List UInt8)) (Lv : Own) : Prop :=
  ∃ vs : List Value, Grow e 1 v vs.length vs Lv ∧ vs.length = bss.length ∧ ∀ (i : Nat) (u : Value) (b : List UInt8), vs[i]? = some u → bss[i]? = some b → RdB I u b
theorem GrowR.mono {I' : Imm} {e : TypeId} {v : Value} {bss : List (List UInt8)} {Lv : Own} (h : GrowR I e v bss Lv) (hI : I.le I') : GrowR I' e v bss Lv :=
  let ⟨vs, h1, h2, h3⟩ := h
  ⟨vs, h1, h2, fun i u b h4 h5 => RdL.mono hI (h3 i u b h4 h5)⟩
theorem GrowR.nil (e : TypeId) : GrowR I e (.slice none 0 0) [] [] := ⟨[], Grow.nil e 1, rfl, fun i u b h => by simp at h⟩
theorem GrowR.freeze {e : TypeId} {v : Value} {bss : List (List UInt8)} {Lv : Own} (hg : GrowR I e v bss Lv) (h : St w0 w I (Lv ++ L)) : ∃ I' vs, I.le I' ∧ St w0 w I' L ∧ RdR I' v vs bss := by
  obtain ⟨vs, h1, h2, h3⟩ := hg; obtain ⟨I', h4, h5, h6⟩ := h1.freeze h; exact ⟨I', vs, h4, h5, h6, h2, fun i u b h7 h8 => RdL.mono h4 (h3 i u b h7 h8)⟩
theorem rows_snoc {vs : List Value} {bss : List (List UInt8)} {c : Value} {b : List UInt8} (hl : vs.length = bss.length) (h : ∀ (i : Nat) (u : Value) (b : List UInt8), vs[i]? = some u → bss[i]? = some b → RdB I u b) (hc : RdB I c b) :
    ∀ (i : Nat) (u : Value) (d : List UInt8), (vs ++ [c])[i]? = some u → (bss ++ [b])[i]? = some d → RdB I u d := by
  intro i u d h1 h2
  by_cases hi : i < vs.length
  · rw [List.getElem?_append_left hi] at h1; rw [List.getElem?_append_left (by omega)] at h2; exact h i u d h1 h2
  · rw [List.getElem?_append_right (by omega)] at h1; rw [List.getElem?_append_right (by omega)] at h2; have h3 := (List.getElem?_eq_some_iff.1 h1).1
    have h4 : i - vs.length = 0 := by simp at h3; omega
    rw [h4] at h1; rw [show i - bss.length = 0 by omega] at h2
    simp at h1 h2
    subst h1 h2; exact hc
theorem runs_appendRow {t e : TypeId} {z : Value} {bytes : Nat} (ht : P.underlying t = some (.slice e)) (he : TI P e z 1 bytes) (hz : z.cells.size = 1) {x y : Operand} {v u c : Value} {bss : List (List UInt8)} {b : List UInt8} {Lv : Own} (hx : ev l x = some v) (hy : ev l y = some u)
    (hst : St w0 w I (Lv ++ L)) (hg : GrowR I e v bss Lv) (hr : RdL I 1 u 1 [c]) (hc : RdB I c b) (hb : (bss.length + 1) * bytes ≤ 140737488355328) (hmax : bss.length + 1 ≤ maxLen) :
    ∃ v' w', Runs P (.call ⟨.builtin .append, #[x, y], #[t, t]⟩) ty l w (.value v') w' ∧ ∃ Lv', St w0 w' I (Lv' ++ L) ∧ GrowR I e v' (bss ++ [b]) Lv' := by
  obtain ⟨vs, h1, h2, h3⟩ := hg; obtain ⟨v', w', h4, Lv', h5, h6⟩ := runs_appendR (ty := ty) ht he hz (by decide) hx hy hst h1 hr (by rw [h2]; exact hb) (by rw [h2]; exact hmax); exact ⟨v', w', h4, Lv', h5, vs ++ [c], by simpa using h6, by simp [h2], rows_snoc h2 h3 hc⟩
end Go.Proofs.YtadgbifmiooikaaGreatX
