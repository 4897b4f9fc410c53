/- Parts of a proof, joined: walks through the program's functions and their laws, in the order in which they need each other. -/
import Derived.Test.YtadgbifmiooikaaGreatPCb
import Derived.Test.YtadgbifmiooikaaGreatPCc
namespace Go.Proofs.YtadgbifmiooikaaGreatX
set_option linter.unusedVariables false
set_option linter.unusedSimpArgs false
open Go Go.RowKit Go.Proofs
set_option maxRecDepth 100000 in
set_option maxHeartbeats 1000000 in
theorem enc_spec {w0 w : World} {I : Imm} {L : Own} (hst : St w0 w I L) {v : Value} {av : List AV} {m : Nat} {o : Bool} (hv : RdA I v av) (hgood : ∀ a ∈ av, a.good m o) (hlen : av.length ≤ 100000000000) :
    Calls Tryz.prog 51 #[v] w fun r w' => ∃ I' v', Imm.le I I' ∧ r = .returned (.tuple #[v', .int .i64 (if encOk av then 0 else 1)]) ∧ St w0 w' I' L ∧ RdB I' v' (if encOk av then encA av else []) := by
  refine enter Tryz.func51 rfl (N := 65) rfl rfl ?_
  simp only [zA, zB, zC, zD, zE, Nat.reduceAdd]
  have hle := Imm.le.refl I; refine zR <| zS rfl rfl <| zS rfl rfl <| zN <| zS rfl rfl <| zM <| zk <| zR <| zm rfl rfl <| z1 rfl (RdL.len Tryz.underlying95 rfl (by assumption)) ?_; refine zm rfl rfl <| zM <| CW.block <| CW.loop (Nat × Value × Own × Imm) (fun x w => I.le x.2.2.2 ∧ St w0 w x.2.2.2 (x.2.2.1 ++ L) ∧ GrowB 5 x.2.1 (encA (av.take x.1)) x.2.2.1 ∧ encOk (av.take x.1) = true ∧ x.1 ≤ av.length) (fun x => [(12, v), (13, .int .i64 (av.length : Int)), (14, .int .i64 (x.1 : Int)), (4, x.2.1)]) (fun x => av.length - x.1) ⟨(0, .slice none 0 0, [], I), ⟨Imm.le.refl _, hst, by rw [List.take_zero]; exact GrowB.nil _, rfl, Nat.zero_le _⟩, ⟨rfl, rfl, rfl, rfl, trivial⟩⟩ ?_; rintro ⟨k, vo, Lo, I5⟩ w ⟨hle, hstn, hg, hok, hk0⟩; dsimp only at hle hstn hg hok hk0 ⊢; clear hst; have hst := hstn; clear hstn; refine zR <| z1 rfl (runs_lss rfl rfl) <| zM <| zk <| zb rfl (fun hc15 => ?_) (fun hc15 => ?_)
  · have hcb15 := hc15; (try simp only [dY, dF] at hc15)
    have hk : k < av.length := by omega
    have hga := hgood _ (List.getElem_mem hk); have hvk := RdL.mono hle hv; have hsz := encA_le hok
    have htk : (av.take k).length ≤ 100000000000 := by rw [List.length_take]; omega
    have hat := RdA.at (i := (k : Int)) hvk (by omega) (by omega)
    simp only [Int.toNat_natCast] at hat
    obtain ⟨a, ha⟩ : ∃ a, av[k] = a := ⟨_, rfl⟩; have e1 : av[k] = a := ha; rw [ha] at hat hga; have hisI := AV.isI hga; refine zj <| za <| zk <| CW.block <| zR <| z1 rfl (RdL.indexAddr Tryz.underlying95 ti20 (by decide) rfl rfl hvk (by omega)) ?_; refine z1 rfl (runs_load1 sc20 rfl (hst.cell_imm hat)) ?_; refine zS rfl rfl <| zN <| zm rfl rfl <| zM <| CW.block <| zR <| z1 rfl (runs_assertOk con3 ti3 rfl (AV.isI hga)) <| zx rfl rfl rfl <| zx rfl rfl rfl <| zM ?_; refine zb rfl (fun hc20 => ?_) (fun hc20 => ?_)
    · have hcb20 := hc20; (try simp only [dY, dF] at hc20); obtain ⟨n, rfl⟩ := AV.asB_num hga hcb20; refine zR <| zS rfl rfl <| zN <| zm rfl rfl <| ze rfl (runs_litB (bs := [105]) rfl Tryz.underlying52 ti5 (by decide) rfl rfl rfl hst) ?_; clear hst; rintro u1 w ⟨I1, hI1, hst, h1⟩; replace hle := hle.trans hI1; refine ze rfl (runs_appendB Tryz.underlying52 ti5 rfl rfl hst (by assumption) (by assumption) (by (try simp) <;> omega)) ?_; clear hst; rintro u2 w ⟨Lv2, hst, hg2⟩; refine zS rfl rfl <| zN <| zm rfl rfl <| zM <| CW.block <| CW.loop (Nat × Value × Own × Imm) (fun x w => I.le x.2.2.2 ∧ St w0 w x.2.2.2 (x.2.2.1 ++ L) ∧ GrowB 5 x.2.1 (encA (av.take k) ++ [105] ++ (be8 n).take x.1) x.2.2.1 ∧ x.1 ≤ 8) (fun x => [(12, v), (13, .int .i64 (av.length : Int)), (14, .int .i64 (k : Int)), (7, .int .i64 n), (4, x.2.1), (25, .int .i64 (x.1 : Int))]) (fun x => 8 - x.1) ⟨(0, _, _, _), ⟨hle, hst, by rw [List.take_zero, List.append_nil]; assumption, by omega⟩, ⟨rfl, rfl, rfl, rfl, rfl, rfl, trivial⟩⟩ ?_; rintro ⟨j, vi, Li, I6⟩ w ⟨hle, hstn, hg, hj0⟩; dsimp only at hle hstn hg hj0 ⊢; clear hst; have hst := hstn; clear hstn; refine zR <| z1 rfl (runs_lss rfl rfl) <| zM <| zk <| zb rfl (fun hc26 => ?_) (fun hc26 => ?_)
      · have hcb26 := hc26; (try simp only [dY, dF] at hc26)
        have hj : j < 8 := by omega
        have hbl : ((be8 n).take j).length ≤ 8 := by rw [List.length_take]; omega
        refine zj <| za <| zk <| CW.block <| zR <| zm rfl rfl <| zS rfl rfl <| zM <| zg <| zm rfl rfl ?_; refine zm rfl rfl ?_; refine z1 rfl (runs_convI (by rw [Tryz.underlying3]; rfl) Tryz.underlying140 rfl) ?_; refine zm rfl rfl <| z1 rfl (runs_sub rfl rfl (by omega)) ?_; refine z1 rfl (runs_mul rfl rfl (by omega)) ?_
        have e33 : (8 : Int) * (7 - (j : Int)) = ((8 * (7 - j) : Nat) : Int) := by omega
        rw [e33]; refine z1 rfl (runs_shr (n := 8 * (7 - j)) rfl rfl (by show 8 * (7 - j) ≤ 64; omega)) ?_; refine z1 rfl (runs_convB (by rw [Tryz.underlying140]; rfl) Tryz.underlying5 rfl) ?_; refine ze rfl (runs_litB (bs := [_]) rfl Tryz.underlying52 ti5 (by decide) rfl rfl rfl hst) ?_; clear hst; rintro u3 w ⟨I3, hI3, hst, h3⟩; replace hle := hle.trans hI3; refine ze rfl (runs_appendB Tryz.underlying52 ti5 rfl rfl hst (by assumption) (by assumption) (by (try simp) <;> omega)) ?_; clear hst; rintro u4 w ⟨Lv4, hst, hg4⟩; refine zS rfl rfl <| zd <| zh <| za <| zg <| z1 rfl (runs_add rfl rfl (by omega)) ?_; refine zm rfl rfl <| zd ?_; exact AQ.again (x := (j, vi, Li, I6)) (j + 1, _, _, _) ⟨hle, hst, by rw [be8_take n hj, ← List.append_assoc]; assumption, by omega⟩ ⟨rfl, rfl, rfl, rfl, rfl, rfl, trivial⟩ (by dsimp only; omega)
      · have hcb26 := hc26; (try simp only [dY, dF] at hc26); refine CW.exit ?_; refine AQ.past_exit <| AQ.past_exit <| AQ.block_hit <| zh <| zh <| za <| zg <| z1 rfl (runs_add rfl rfl (by omega)) ?_; refine zm rfl rfl <| zd ?_; have hb8 : (be8 n).take j = be8 n := List.take_of_length_le (by rw [be8_length]; omega); rw [hb8] at hg; exact AQ.again (x := (k, vo, Lo, I5)) (k + 1, _, _, _) ⟨hle, hst, by rw [encA_take hk, e1]; simpa [enc1] using hg, encOk_take hk hok (by rw [e1]; rfl), by omega⟩ ⟨rfl, rfl, rfl, rfl, trivial⟩ (by dsimp only; omega)
    · have hcb20 := hc20; (try simp only [dY, dF] at hc20); refine zR <| z1 rfl (runs_assertOk con9 ti9 rfl (by first | rfl | assumption)) ?_; refine zx rfl rfl rfl <| zx rfl rfl rfl <| zM <| zb rfl (fun hc40 => ?_) (fun hc40 => ?_)
      · have hcb40 := hc40; (try simp only [dY, dF] at hc40); obtain ⟨b, rfl⟩ := AV.asB_txt hga hcb40; refine zR <| zS rfl rfl <| zM <| zk <| zR <| zm rfl rfl <| z1 rfl (runs_lenS Tryz.underlying9 rfl) <| z1 rfl (runs_gtr rfl rfl) <| zM <| zb rfl (fun hc44 => ?_) (fun hc44 => ?_)
        · have hcb44 := hc44; (try simp only [dY, dF] at hc44); refine zR <| zS rfl rfl <| zS rfl rfl <| zM <| CW.ret <| zr <| AQ.block_ret <| AQ.block_ret <| zr <| zr ?_; refine AQ.block_ret <| zr ?_; refine AQ.ret2 rfl rfl rfl ?_; rw [encOk_no hk (by rw [e1]; simp [enc1Ok]; omega)]; exact ⟨_, _, hle, rfl, hst.sub (List.sublist_append_right _ _), RdL.nil 1⟩
        · have hcb44 := hc44; (try simp only [dY, dF] at hc44); have hbl := size_toList b; refine zj <| za <| zg <| zm rfl rfl <| zm rfl rfl <| z1 rfl (runs_lenS Tryz.underlying9 rfl) <| z1 rfl (runs_convB (by rw [Tryz.underlying3]; rfl) Tryz.underlying5 rfl) ?_; refine ze rfl (runs_litB (bs := [115, _]) rfl Tryz.underlying52 ti5 (by decide) rfl rfl rfl hst) ?_; clear hst; rintro u5 w ⟨I5, hI5, hst, h5⟩; replace hle := hle.trans hI5; refine ze rfl (runs_appendB Tryz.underlying52 ti5 rfl rfl hst (by assumption) (by assumption) (by (try simp) <;> omega)) ?_; clear hst; rintro u6 w ⟨Lv6, hst, hg6⟩; refine zm rfl rfl <| ze rfl (runs_appendS Tryz.underlying52 ti5 Tryz.underlying9 rfl rfl hst (by assumption) (by (try simp) <;> omega)) ?_; clear hst; rintro u7 w ⟨Lv7, hst, hg7⟩; refine zS rfl rfl <| zd <| zh <| zh <| za <| zg <| z1 rfl (runs_add rfl rfl (by omega)) ?_; refine zm rfl rfl <| zd ?_; exact AQ.again (x := (k, vo, Lo, I5)) (k + 1, _, _, _) ⟨hle, hst, by rw [encA_take hk, e1]; simpa [enc1] using (by assumption : GrowB 5 _ (encA (av.take k) ++ [115, u8 b.size] ++ b.toList) _), encOk_take hk hok (by rw [e1]; simp [enc1Ok]; omega), by omega⟩ ⟨rfl, rfl, rfl, rfl, trivial⟩ (by dsimp only; omega)
      · have hcb40 := hc40; (try simp only [dY, dF] at hc40); refine zR <| z1 rfl (runs_assertOk con4 ti4 rfl (by first | rfl | assumption)) ?_; refine zx rfl rfl rfl <| zx rfl rfl rfl <| zM <| zb rfl (fun hc54 => ?_) (fun hc54 => ?_)
        · have hcb54 := hc54; (try simp only [dY, dF] at hc54); obtain ⟨b, rfl⟩ := AV.asB_flg hga hcb54; refine zR <| zS rfl rfl <| zN <| zm rfl rfl <| zM <| zb rfl (fun hc56 => ?_) (fun hc56 => ?_)
          · have hcb56 := hc56; (try simp only [dY, dF] at hc56); refine zg <| zm rfl rfl <| ze rfl (runs_litB (bs := [116]) rfl Tryz.underlying52 ti5 (by decide) rfl rfl rfl hst) ?_; clear hst; rintro u8 w ⟨I8, hI8, hst, h8⟩; replace hle := hle.trans hI8; refine ze rfl (runs_appendB Tryz.underlying52 ti5 rfl rfl hst (by assumption) (by assumption) (by (try simp) <;> omega)) ?_; clear hst; rintro u9 w ⟨Lv9, hst, hg9⟩; refine zS rfl rfl <| zd <| zh <| zh <| za <| zg <| z1 rfl (runs_add rfl rfl (by omega)) ?_; refine zm rfl rfl <| zd ?_; subst hcb56; exact AQ.again (x := (k, vo, Lo, I5)) (k + 1, _, _, _) ⟨hle, hst, by rw [encA_take hk, e1]; simpa [enc1] using (by assumption : GrowB 5 _ (encA (av.take k) ++ [116]) _), encOk_take hk hok (by rw [e1]; rfl), by omega⟩ ⟨rfl, rfl, rfl, rfl, trivial⟩ (by dsimp only; omega)
          · have hcb56 := hc56; (try simp only [dY, dF] at hc56); refine zg <| zm rfl rfl <| ze rfl (runs_litB (bs := [102]) rfl Tryz.underlying52 ti5 (by decide) rfl rfl rfl hst) ?_; clear hst; rintro u10 w ⟨I10, hI10, hst, h10⟩; replace hle := hle.trans hI10; refine ze rfl (runs_appendB Tryz.underlying52 ti5 rfl rfl hst (by assumption) (by assumption) (by (try simp) <;> omega)) ?_; clear hst; rintro u11 w ⟨Lv11, hst, hg11⟩; refine zS rfl rfl <| zd <| zh <| zh <| za <| zg <| z1 rfl (runs_add rfl rfl (by omega)) ?_; refine zm rfl rfl <| zd ?_; subst hcb56; exact AQ.again (x := (k, vo, Lo, I5)) (k + 1, _, _, _) ⟨hle, hst, by rw [encA_take hk, e1]; simpa [enc1] using (by assumption : GrowB 5 _ (encA (av.take k) ++ [102]) _), encOk_take hk hok (by rw [e1]; rfl), by omega⟩ ⟨rfl, rfl, rfl, rfl, trivial⟩ (by dsimp only; omega)
        · have hcb54 := hc54; (try simp only [dY, dF] at hc54); obtain ⟨u, rfl⟩ := AV.asB_oth hcb20 hcb40 hcb54; refine zR <| zS rfl rfl <| zN <| zS rfl rfl <| zS rfl rfl <| zM <| CW.ret <| AQ.block_ret <| AQ.block_ret <| zr ?_; refine zr <| AQ.block_ret <| zr ?_; refine AQ.ret2 rfl rfl rfl ?_; rw [encOk_no hk (by rw [e1]; rfl)]; exact ⟨_, _, hle, rfl, hst.sub (List.sublist_append_right _ _), RdL.nil 1⟩
  · have hcb15 := hc15; (try simp only [dY, dF] at hc15); refine CW.exit ?_; refine AQ.past_exit <| AQ.past_exit <| AQ.block_hit <| za <| zR <| zm rfl rfl <| zS rfl rfl <| zS rfl rfl <| zM <| CW.ret ?_; refine AQ.ret2 rfl rfl rfl ?_; have hkl : av.take k = av := List.take_of_length_le (by omega); rw [hkl] at hok hg; rw [hok]; obtain ⟨I', hI, hst, hr⟩ := GrowB.freeze hg hst; exact ⟨I', _, hle.trans hI, rfl, hst, hr⟩
set_option maxRecDepth 100000 in
set_option maxHeartbeats 1000000 in
theorem one_spec {w0 w : World} {I : Imm} {L : Own} (hst : St w0 w I L) {v : Value} {b : List UInt8} (hv : RdB I v b) (hpos : 0 < b.length) :
    Calls Tryz.prog 115 #[v] w fun r w' => ∃ v', r = .returned (.tuple #[(match dec1 b with | some (a, _) => a.v | none => .nilIface), v', .bool (dec1 b).isSome]) ∧ St w0 w' I L ∧ RdB I v' (match dec1 b with | some (_, k) => b.drop k | none => []) := by
  have hb0 := bat_lt b 0; have hb1 := bat_lt b 1; refine enter Tryz.func115 rfl (N := 88) rfl rfl ?_
  simp only [zA, zB, zC, zD, zE, Nat.reduceAdd]
  have hle := Imm.le.refl I; refine zR <| zS rfl rfl <| zS rfl rfl <| zS rfl rfl <| zM <| zk <| CW.block <| zR <| zm rfl rfl <| z1 rfl (RdL.indexAddr Tryz.underlying52 ti5 (by decide) rfl rfl (by assumption) (by omega)) ?_; refine z1 rfl (runs_load1 sc5 rfl (hst.cell_imm (RdB.at (by assumption) (by omega) (by omega)))) ?_; refine z1 rfl (runs_eqI rfl rfl) <| zm rfl rfl <| zi (t := 14) rfl (fun hb14 => ?_) (fun hb14 => ?_)
  · have hb14p := hb14; (try simp only [dY, dF] at hb14p); refine zH rfl rfl rfl rfl rfl rfl rfl rfl hb14 <| zf rfl rfl rfl rfl hb14 <| zt rfl rfl hb14 rfl <| zS rfl rfl <| zM <| CW.cond_true rfl ?_; refine zk ?_; refine CW.drawSt hst (.q 0 (.q 1 (.q 2 (.q 3 (.q 4 (.q 5 (.q 6 (.q 7 (.q 8 (.q 9 .nil)))))))))) follows (by kernel_rfl) (fun w hst => ?_); refine ym rfl rfl rfl <| DRW.q rfl rfl (fun w' hF => RdL.indexAddr Tryz.underlying52 ti5 (by decide) rfl rfl (by assumption) (by omega)) ?_; refine DRW.q rfl rfl (FSt.load1 sc5 rfl (RdB.at (by assumption) (by omega) (by omega))) ?_; refine DRW.q rfl rfl (fun w' hF => runs_eqI rfl rfl) ?_; refine DRW.q rfl rfl (fun w' hF => runs_makeIface con4 rfl) ?_; refine ym rfl rfl rfl ?_; have hp26 := RdB.part hv (lo := (1 : Int).toNat) (hi := b.length) (by omega) (by omega); rw [List.take_of_length_le (by rw [List.length_drop]; omega)] at hp26; refine DRW.q rfl rfl (fun w' hF => RdL.slice_l Tryz.underlying52 ti5 rfl rfl hv (by omega)) ?_; refine yS rfl rfl rfl <| yS rfl rfl rfl <| yS rfl rfl rfl <| DRW.done <| za <| CW.ret <| AQ.block_ret <| zr <| AQ.retL (rs := [.tmp 2, .tmp 3, .tmp 4]) (vs := [_, _, _]) rfl ⟨rfl, rfl, rfl, trivial⟩ (by simp) ?_; rw [dec1_flg (by omega)]; exact ⟨_, rfl, hst, hp26⟩
  · have hb14p := hb14; (try simp only [dY, dF] at hb14p); refine zo rfl rfl rfl rfl hb14 <| zm rfl rfl <| zo rfl rfl rfl rfl hb14 <| z1 rfl (RdL.indexAddr Tryz.underlying52 ti5 (by decide) rfl rfl (by assumption) (by omega)) ?_; refine zo rfl rfl rfl rfl hb14 <| z1 rfl (runs_load1 sc5 rfl (hst.cell_imm (RdB.at (by assumption) (by omega) (by omega)))) ?_; refine zo rfl rfl rfl rfl hb14 <| z1 rfl (runs_eqI rfl rfl) <| zn rfl rfl hb14 rfl <| zS rfl rfl <| zM <| zb rfl (fun hc9 => ?_) (fun hc9 => ?_)
    · have hcb9 := hc9; (try simp only [dY, dF] at hc9); refine zk ?_; refine CW.drawSt hst (.q 0 (.q 1 (.q 2 (.q 3 (.q 4 (.q 5 (.q 6 (.q 7 (.q 8 (.q 9 .nil)))))))))) follows (by kernel_rfl) (fun w hst => ?_); refine ym rfl rfl rfl <| DRW.q rfl rfl (fun w' hF => RdL.indexAddr Tryz.underlying52 ti5 (by decide) rfl rfl (by assumption) (by omega)) ?_; refine DRW.q rfl rfl (FSt.load1 sc5 rfl (RdB.at (by assumption) (by omega) (by omega))) ?_; refine DRW.q rfl rfl (fun w' hF => runs_eqI rfl rfl) ?_; refine DRW.q rfl rfl (fun w' hF => runs_makeIface con4 rfl) ?_; refine ym rfl rfl rfl ?_; have hp26 := RdB.part hv (lo := (1 : Int).toNat) (hi := b.length) (by omega) (by omega); rw [List.take_of_length_le (by rw [List.length_drop]; omega)] at hp26; refine DRW.q rfl rfl (fun w' hF => RdL.slice_l Tryz.underlying52 ti5 rfl rfl hv (by omega)) ?_; refine yS rfl rfl rfl <| yS rfl rfl rfl <| yS rfl rfl rfl <| DRW.done <| za <| CW.ret <| AQ.block_ret <| zr <| AQ.retL (rs := [.tmp 2, .tmp 3, .tmp 4]) (vs := [_, _, _]) rfl ⟨rfl, rfl, rfl, trivial⟩ (by simp) ?_; rw [dec1_flg (by omega)]; exact ⟨_, rfl, hst, hp26⟩
    · have hcb9 := hc9; (try simp only [dY, dF] at hc9); refine zR <| zm rfl rfl <| z1 rfl (RdL.indexAddr Tryz.underlying52 ti5 (by decide) rfl rfl (by assumption) (by omega)) ?_; refine z1 rfl (runs_load1 sc5 rfl (hst.cell_imm (RdB.at (by assumption) (by omega) (by omega)))) ?_; refine z1 rfl (runs_eqI rfl rfl) <| zm rfl rfl <| zi (t := 32) rfl (fun hb32 => ?_) (fun hb32 => ?_)
      · have hb32p := hb32; (try simp only [dY, dF] at hb32p); refine zo rfl rfl rfl rfl hb32 <| zm rfl rfl <| zo rfl rfl rfl rfl hb32 <| z1 rfl (RdL.len Tryz.underlying52 rfl (by assumption)) ?_; refine zo rfl rfl rfl rfl hb32 <| z1 rfl (runs_gtr rfl rfl) <| zt rfl rfl hb32 rfl <| zS rfl rfl <| zM <| zb rfl (fun hc27 => ?_) (fun hc27 => ?_)
        · have hcb27 := hc27; (try simp only [dY, dF] at hc27); refine zR <| zS rfl rfl <| zM <| zk <| zR <| zm rfl rfl ?_; have hp38 : RdB I (partV v (1 : Int).toNat (9 : Int).toNat 1) ((b.drop 1).take 8) := RdB.part hv (by omega) (by omega)
          have hl8 : ((b.drop 1).take 8).length = 8 := by rw [List.length_take, List.length_drop]; omega
          refine z1 rfl (RdL.slice_lh Tryz.underlying52 ti5 rfl rfl rfl hv (by omega)) ?_; refine z1 rfl (RdL.len Tryz.underlying52 rfl hp38) <| zm rfl rfl <| zM <| CW.block <| CW.loop Nat (fun k w => St w0 w I L ∧ k ≤ 8) (fun k => [(0, v), (5, .int .u64 ((((b.drop 1).take 8).take k).foldl nstep 0)), (38, partV v (1 : Int).toNat (9 : Int).toNat 1), (39, .int .i64 (((b.drop 1).take 8).length : Int)), (40, .int .i64 (k : Int))]) (fun k => 8 - k) ⟨0, ⟨hst, by omega⟩, ⟨rfl, rfl, rfl, rfl, rfl, trivial⟩⟩ ?_; clear hst; rintro k w ⟨hst, hk⟩; refine zR <| z1 rfl (runs_lss rfl rfl) <| zM <| zk <| zb rfl (fun hc41 => ?_) (fun hc41 => ?_)
          · have hcb41 := hc41; (try simp only [dY, dF] at hc41); refine zj <| za <| zk <| CW.block <| zR <| z1 rfl (RdL.indexAddr Tryz.underlying52 ti5 (by decide) rfl rfl hp38 (by omega)) ?_; refine z1 rfl (runs_load1 sc5 rfl (hst.cell_imm (RdB.at hp38 (by omega) (by omega)))) ?_; refine zS rfl rfl <| zM <| zg <| zm rfl rfl <| z1 rfl (runs_shl (n := 8) rfl rfl (by decide)) ?_; refine zm rfl rfl <| z1 rfl (runs_convI (by rw [Tryz.underlying5]; rfl) Tryz.underlying140 rfl) ?_; refine z1 rfl (runs_or rfl rfl) <| zS rfl rfl <| zd <| zh <| za <| zg <| z1 rfl (runs_add rfl rfl (by omega)) ?_; refine zm rfl rfl <| zd ?_; exact AQ.again (k + 1) ⟨hst, by omega⟩ ⟨rfl, by rw [fold_take (by omega)]; rfl, rfl, rfl, rfl, trivial⟩ (by omega)
          · have hcb41 := hc41; (try simp only [dY, dF] at hc41); refine CW.exit ?_; refine AQ.past_exit <| AQ.past_exit <| AQ.block_hit <| za <| zk ?_; refine CW.drawSt hst (.q 0 (.q 1 (.q 2 (.q 3 (.q 4 (.q 5 (.q 6 (.q 7 .nil)))))))) follows (by kernel_rfl) (fun w hst => ?_); refine ym rfl rfl rfl <| DRW.q rfl rfl (fun w' hF => runs_convI (by rw [Tryz.underlying140]; rfl) Tryz.underlying3 rfl) ?_; refine DRW.q rfl rfl (fun w' hF => runs_makeIface con3 rfl) ?_; refine ym rfl rfl rfl ?_; have hp54 := RdB.part hv (lo := (9 : Int).toNat) (hi := b.length) (by omega) (by omega); rw [List.take_of_length_le (by rw [List.length_drop]; omega)] at hp54; refine DRW.q rfl rfl (fun w' hF => RdL.slice_l Tryz.underlying52 ti5 rfl rfl hv (by omega)) ?_; refine yS rfl rfl rfl <| yS rfl rfl rfl <| yS rfl rfl rfl <| DRW.done <| za <| CW.ret <| AQ.block_ret <| zr <| AQ.retL (rs := [.tmp 2, .tmp 3, .tmp 4]) (vs := [_, _, _]) rfl ⟨rfl, rfl, rfl, trivial⟩ (by simp) ?_; have hk8 : ((b.drop 1).take 8).take k = (b.drop 1).take 8 := List.take_of_length_le (by omega); rw [hk8, dec1_num (by omega) (by omega)]; exact ⟨_, rfl, hst, hp54⟩
        · have hcb27 := hc27; (try simp only [dY, dF] at hc27); refine zR <| zm rfl rfl <| z1 rfl (RdL.indexAddr Tryz.underlying52 ti5 (by decide) rfl rfl (by assumption) (by omega)) ?_; refine z1 rfl (runs_load1 sc5 rfl (hst.cell_imm (RdB.at (by assumption) (by omega) (by omega)))) ?_; refine z1 rfl (runs_eqI rfl rfl) <| zm rfl rfl <| zi (t := 60) rfl (fun hb60 => ?_) (fun hb60 => ?_)
          · have hb60p := hb60; (try simp only [dY, dF] at hb60p); refine zo rfl rfl rfl rfl hb60 <| zm rfl rfl <| zo rfl rfl rfl rfl hb60 <| z1 rfl (RdL.len Tryz.underlying52 rfl (by assumption)) ?_; refine zo rfl rfl rfl rfl hb60 <| z1 rfl (runs_gtr rfl rfl) <| zt rfl rfl hb60 rfl <| zm rfl rfl <| zi (t := 65) rfl (fun hb65 => ?_) (fun hb65 => ?_)
            · have hb65p := hb65; (try simp only [dY, dF] at hb65p); refine zo rfl rfl rfl rfl hb65 <| zm rfl rfl <| zo rfl rfl rfl rfl hb65 <| z1 rfl (RdL.len Tryz.underlying52 rfl (by assumption)) ?_; refine zo rfl rfl rfl rfl hb65 <| zm rfl rfl <| zo rfl rfl rfl rfl hb65 <| z1 rfl (RdL.indexAddr Tryz.underlying52 ti5 (by decide) rfl rfl (by assumption) (by omega)) ?_; refine zo rfl rfl rfl rfl hb65 <| z1 rfl (runs_load1 sc5 rfl (hst.cell_imm (RdB.at (by assumption) (by omega) (by omega)))) ?_; refine zo rfl rfl rfl rfl hb65 <| z1 rfl (runs_conv64 (by rw [Tryz.underlying5]; rfl) Tryz.underlying3 rfl (bat_ok _ _)) ?_; refine zo rfl rfl rfl rfl hb65 <| z1 rfl (runs_add rfl rfl (by omega)) ?_; refine zo rfl rfl rfl rfl hb65 <| z1 rfl (runs_geq rfl rfl) <| zt rfl rfl hb65 rfl <| zS rfl rfl <| zM <| zb rfl (fun hc55 => ?_) (fun hc55 => ?_)
              · have hcb55 := hc55; (try simp only [dY, dF] at hc55); refine zR <| zm rfl rfl <| z1 rfl (RdL.indexAddr Tryz.underlying52 ti5 (by decide) rfl rfl (by assumption) (by omega)) ?_; refine z1 rfl (runs_load1 sc5 rfl (hst.cell_imm (RdB.at (by assumption) (by omega) (by omega)))) ?_; refine z1 rfl (runs_conv64 (by rw [Tryz.underlying5]; rfl) Tryz.underlying3 rfl (bat_ok _ _)) ?_; refine z1 rfl (runs_add rfl rfl (by omega)) ?_; refine zS rfl rfl <| zM <| zk ?_; refine CW.drawSt hst (.q 0 (.q 1 (.q 2 (.q 3 (.q 4 (.q 5 (.q 6 (.q 7 (.q 8 (.q 9 (.q 10 .nil))))))))))) follows (by kernel_rfl) (fun w hst => ?_); refine ym rfl rfl rfl <| ym rfl rfl rfl ?_
                have hp82 : RdB I (partV v (2 : Int).toNat (2 + bat b 1).toNat 1) ((b.drop 2).take (bat b 1).toNat) := by
                  have h9 := RdB.part hv (lo := (2 : Int).toNat) (hi := (2 + bat b 1).toNat) (by omega) (by omega); rw [show (2 + bat b 1).toNat - (2 : Int).toNat = (bat b 1).toNat by omega] at h9; exact h9
                refine DRW.q rfl rfl (fun w' hF => RdL.slice_lh Tryz.underlying52 ti5 rfl rfl rfl hv (by omega)) ?_; refine DRW.q rfl rfl (FSt.string Tryz.underlying52 Tryz.underlying5 Tryz.underlying9 rfl hp82) <| DRW.q rfl rfl (fun w' hF => runs_makeIface con9 rfl) ?_; refine ym rfl rfl rfl <| ym rfl rfl rfl ?_; have hp87 := RdB.part hv (lo := (2 + bat b 1 : Int).toNat) (hi := b.length) (by omega) (by omega); rw [List.take_of_length_le (by rw [List.length_drop]; omega)] at hp87; refine DRW.q rfl rfl (fun w' hF => RdL.slice_l Tryz.underlying52 ti5 rfl rfl hv (by omega)) ?_; refine yS rfl rfl rfl <| yS rfl rfl rfl <| yS rfl rfl rfl <| DRW.done <| za <| CW.ret <| AQ.block_ret <| zr <| AQ.retL (rs := [.tmp 2, .tmp 3, .tmp 4]) (vs := [_, _, _]) rfl ⟨rfl, rfl, rfl, trivial⟩ (by simp) ?_; rw [dec1_txt (by omega) (by omega) (by omega)]
                have e87 : (2 + bat b 1).toNat = 2 + (bat b 1).toNat := by omega
                exact ⟨_, rfl, hst, by show RdB _ _ (b.drop (2 + (bat b 1).toNat)); rw [← e87]; exact hp87⟩
              · have hcb55 := hc55; (try simp only [dY, dF] at hc55); refine zj <| zh <| za <| zR <| zS rfl rfl <| zS rfl rfl <| zS rfl rfl <| zM <| CW.ret <| AQ.retL (rs := [.tmp 2, .tmp 3, .tmp 4]) (vs := [_, _, _]) rfl ⟨rfl, rfl, rfl, trivial⟩ (by simp) ?_; rw [dec1_no (by omega) (by omega) (by omega)]; exact ⟨_, rfl, hst, RdL.nil 1⟩
            · have hb65p := hb65; (try simp only [dY, dF] at hb65p); refine zH rfl rfl rfl rfl rfl rfl rfl rfl hb65 <| zH rfl rfl rfl rfl rfl rfl rfl rfl hb65 <| zG rfl rfl rfl rfl rfl rfl hb65 <| zn rfl rfl hb65 rfl <| zS rfl rfl <| zM <| CW.cond_false rfl ?_; refine zj <| zh <| za <| zR <| zS rfl rfl <| zS rfl rfl <| zS rfl rfl <| zM <| CW.ret <| AQ.retL (rs := [.tmp 2, .tmp 3, .tmp 4]) (vs := [_, _, _]) rfl ⟨rfl, rfl, rfl, trivial⟩ (by simp) ?_; rw [dec1_no (by omega) (by omega) (by omega)]; exact ⟨_, rfl, hst, RdL.nil 1⟩
          · have hb60p := hb60; (try simp only [dY, dF] at hb60p); refine zH rfl rfl rfl rfl rfl rfl rfl rfl hb60 <| zn rfl rfl hb60 rfl <| zm rfl rfl <| zH rfl rfl rfl rfl rfl rfl rfl rfl rfl <| zH rfl rfl rfl rfl rfl rfl rfl rfl rfl <| zG rfl rfl rfl rfl rfl rfl rfl <| zn rfl rfl rfl rfl <| zS rfl rfl <| zM <| CW.cond_false rfl ?_; refine zj <| zh <| za <| zR <| zS rfl rfl <| zS rfl rfl <| zS rfl rfl <| zM <| CW.ret <| AQ.retL (rs := [.tmp 2, .tmp 3, .tmp 4]) (vs := [_, _, _]) rfl ⟨rfl, rfl, rfl, trivial⟩ (by simp) ?_; rw [dec1_no (by omega) (by omega) (by omega)]; exact ⟨_, rfl, hst, RdL.nil 1⟩
      · have hb32p := hb32; (try simp only [dY, dF] at hb32p); refine zH rfl rfl rfl rfl rfl rfl rfl rfl hb32 <| zn rfl rfl hb32 rfl <| zS rfl rfl <| zM <| CW.cond_false rfl ?_; refine zR <| zm rfl rfl <| z1 rfl (RdL.indexAddr Tryz.underlying52 ti5 (by decide) rfl rfl (by assumption) (by omega)) ?_; refine z1 rfl (runs_load1 sc5 rfl (hst.cell_imm (RdB.at (by assumption) (by omega) (by omega)))) ?_; refine z1 rfl (runs_eqI rfl rfl) <| zm rfl rfl <| zi (t := 60) rfl (fun hb60 => ?_) (fun hb60 => ?_)
        · have hb60p := hb60; (try simp only [dY, dF] at hb60p); refine zo rfl rfl rfl rfl hb60 <| zm rfl rfl <| zo rfl rfl rfl rfl hb60 <| z1 rfl (RdL.len Tryz.underlying52 rfl (by assumption)) ?_; refine zo rfl rfl rfl rfl hb60 <| z1 rfl (runs_gtr rfl rfl) <| zt rfl rfl hb60 rfl <| zm rfl rfl <| zi (t := 65) rfl (fun hb65 => ?_) (fun hb65 => ?_)
          · have hb65p := hb65; (try simp only [dY, dF] at hb65p); refine zo rfl rfl rfl rfl hb65 <| zm rfl rfl <| zo rfl rfl rfl rfl hb65 <| z1 rfl (RdL.len Tryz.underlying52 rfl (by assumption)) ?_; refine zo rfl rfl rfl rfl hb65 <| zm rfl rfl <| zo rfl rfl rfl rfl hb65 <| z1 rfl (RdL.indexAddr Tryz.underlying52 ti5 (by decide) rfl rfl (by assumption) (by omega)) ?_; refine zo rfl rfl rfl rfl hb65 <| z1 rfl (runs_load1 sc5 rfl (hst.cell_imm (RdB.at (by assumption) (by omega) (by omega)))) ?_; refine zo rfl rfl rfl rfl hb65 <| z1 rfl (runs_conv64 (by rw [Tryz.underlying5]; rfl) Tryz.underlying3 rfl (bat_ok _ _)) ?_; refine zo rfl rfl rfl rfl hb65 <| z1 rfl (runs_add rfl rfl (by omega)) ?_; refine zo rfl rfl rfl rfl hb65 <| z1 rfl (runs_geq rfl rfl) <| zt rfl rfl hb65 rfl <| zS rfl rfl <| zM <| zb rfl (fun hc55 => ?_) (fun hc55 => ?_)
            · have hcb55 := hc55; (try simp only [dY, dF] at hc55); refine zR <| zm rfl rfl <| z1 rfl (RdL.indexAddr Tryz.underlying52 ti5 (by decide) rfl rfl (by assumption) (by omega)) ?_; refine z1 rfl (runs_load1 sc5 rfl (hst.cell_imm (RdB.at (by assumption) (by omega) (by omega)))) ?_; refine z1 rfl (runs_conv64 (by rw [Tryz.underlying5]; rfl) Tryz.underlying3 rfl (bat_ok _ _)) ?_; refine z1 rfl (runs_add rfl rfl (by omega)) ?_; refine zS rfl rfl <| zM <| zk ?_; refine CW.drawSt hst (.q 0 (.q 1 (.q 2 (.q 3 (.q 4 (.q 5 (.q 6 (.q 7 (.q 8 (.q 9 (.q 10 .nil))))))))))) follows (by kernel_rfl) (fun w hst => ?_); refine ym rfl rfl rfl <| ym rfl rfl rfl ?_
              have hp82 : RdB I (partV v (2 : Int).toNat (2 + bat b 1).toNat 1) ((b.drop 2).take (bat b 1).toNat) := by
                have h9 := RdB.part hv (lo := (2 : Int).toNat) (hi := (2 + bat b 1).toNat) (by omega) (by omega); rw [show (2 + bat b 1).toNat - (2 : Int).toNat = (bat b 1).toNat by omega] at h9; exact h9
              refine DRW.q rfl rfl (fun w' hF => RdL.slice_lh Tryz.underlying52 ti5 rfl rfl rfl hv (by omega)) ?_; refine DRW.q rfl rfl (FSt.string Tryz.underlying52 Tryz.underlying5 Tryz.underlying9 rfl hp82) <| DRW.q rfl rfl (fun w' hF => runs_makeIface con9 rfl) ?_; refine ym rfl rfl rfl <| ym rfl rfl rfl ?_; have hp87 := RdB.part hv (lo := (2 + bat b 1 : Int).toNat) (hi := b.length) (by omega) (by omega); rw [List.take_of_length_le (by rw [List.length_drop]; omega)] at hp87; refine DRW.q rfl rfl (fun w' hF => RdL.slice_l Tryz.underlying52 ti5 rfl rfl hv (by omega)) ?_; refine yS rfl rfl rfl <| yS rfl rfl rfl <| yS rfl rfl rfl <| DRW.done <| za <| CW.ret <| AQ.block_ret <| zr <| AQ.retL (rs := [.tmp 2, .tmp 3, .tmp 4]) (vs := [_, _, _]) rfl ⟨rfl, rfl, rfl, trivial⟩ (by simp) ?_; rw [dec1_txt (by omega) (by omega) (by omega)]
              have e87 : (2 + bat b 1).toNat = 2 + (bat b 1).toNat := by omega
              exact ⟨_, rfl, hst, by show RdB _ _ (b.drop (2 + (bat b 1).toNat)); rw [← e87]; exact hp87⟩
            · have hcb55 := hc55; (try simp only [dY, dF] at hc55); refine zj <| zh <| za <| zR <| zS rfl rfl <| zS rfl rfl <| zS rfl rfl <| zM <| CW.ret <| AQ.retL (rs := [.tmp 2, .tmp 3, .tmp 4]) (vs := [_, _, _]) rfl ⟨rfl, rfl, rfl, trivial⟩ (by simp) ?_; rw [dec1_no (by omega) (by omega) (by omega)]; exact ⟨_, rfl, hst, RdL.nil 1⟩
          · have hb65p := hb65; (try simp only [dY, dF] at hb65p); refine zH rfl rfl rfl rfl rfl rfl rfl rfl hb65 <| zH rfl rfl rfl rfl rfl rfl rfl rfl hb65 <| zG rfl rfl rfl rfl rfl rfl hb65 <| zn rfl rfl hb65 rfl <| zS rfl rfl <| zM <| CW.cond_false rfl ?_; refine zj <| zh <| za <| zR <| zS rfl rfl <| zS rfl rfl <| zS rfl rfl <| zM <| CW.ret <| AQ.retL (rs := [.tmp 2, .tmp 3, .tmp 4]) (vs := [_, _, _]) rfl ⟨rfl, rfl, rfl, trivial⟩ (by simp) ?_; rw [dec1_no (by omega) (by omega) (by omega)]; exact ⟨_, rfl, hst, RdL.nil 1⟩
        · have hb60p := hb60; (try simp only [dY, dF] at hb60p); refine zH rfl rfl rfl rfl rfl rfl rfl rfl hb60 <| zn rfl rfl hb60 rfl <| zm rfl rfl <| zH rfl rfl rfl rfl rfl rfl rfl rfl rfl <| zH rfl rfl rfl rfl rfl rfl rfl rfl rfl <| zG rfl rfl rfl rfl rfl rfl rfl <| zn rfl rfl rfl rfl <| zS rfl rfl <| zM <| CW.cond_false rfl ?_; refine zj <| zh <| za <| zR <| zS rfl rfl <| zS rfl rfl <| zS rfl rfl <| zM <| CW.ret <| AQ.retL (rs := [.tmp 2, .tmp 3, .tmp 4]) (vs := [_, _, _]) rfl ⟨rfl, rfl, rfl, trivial⟩ (by simp) ?_; rw [dec1_no (by omega) (by omega) (by omega)]; exact ⟨_, rfl, hst, RdL.nil 1⟩
set_option maxRecDepth 100000 in
set_option maxHeartbeats 1000000 in
theorem dec_spec {w0 w : World} {I : Imm} {L : Own} (hst : St w0 w I L) {v : Value} {b : List UInt8} (hv : RdB I v b) (hlen : b.length ≤ 100000000) :
    Calls Tryz.prog 71 #[v] w fun r w' => ∃ I' v', Imm.le I I' ∧ r = .returned (.tuple #[v', .int .i64 (if (decA b).isSome then 0 else 2)]) ∧ St w0 w' I' L ∧ RdA I' v' ((decA b).getD []) := by
  refine enter Tryz.func71 rfl (N := 25) rfl rfl ?_
  simp only [zA, zB, zC, zD, zE, Nat.reduceAdd]
  have hle := Imm.le.refl I; refine zR <| zS rfl rfl <| zS rfl rfl <| zN <| zS rfl rfl <| zM <| zk <| CW.block <| CW.loop (Nat × Value × Value × List AV × Own × Imm) (fun x w => I.le x.2.2.2.2.2 ∧ St w0 w x.2.2.2.2.2 (x.2.2.2.2.1 ++ L) ∧ RdB x.2.2.2.2.2 x.2.1 (b.drop x.1) ∧ GrowA x.2.2.1 x.2.2.2.1 x.2.2.2.2.1 ∧ decA b = (decA (b.drop x.1)).map (x.2.2.2.1 ++ ·) ∧ x.1 ≤ b.length ∧ x.2.2.2.1.length ≤ x.1) (fun x => [(0, x.2.1), (4, x.2.2.1)]) (fun x => b.length - x.1) ⟨(0, v, .slice none 0 0, [], [], I), ⟨Imm.le.refl _, hst, hv, Grow.nil _ _, by simp, Nat.zero_le _, Nat.le_refl _⟩, ⟨rfl, rfl, trivial⟩⟩ ?_; rintro ⟨p, vb, vo, av, Lo, I5⟩ w ⟨hle, hstn, hb, hg, hd, hp, hal⟩; dsimp only at hle hstn hb hg hd hp hal ⊢; clear hst; have hst := hstn; clear hstn; have hdl : (b.drop p).length = b.length - p := List.length_drop; refine zk <| zR <| zm rfl rfl <| z1 rfl (RdL.len Tryz.underlying52 rfl hb) <| z1 rfl (runs_gtr rfl rfl) <| zM <| zb rfl (fun hc10 => ?_) (fun hc10 => ?_)
  · have hcb10 := hc10; (try simp only [dY, dF] at hc10)
    have hpos : 0 < (b.drop p).length := by omega
    have hpos2 : p < b.length := by omega
    refine zj <| za <| CW.block <| zR <| zm rfl rfl <| zK rfl call115 rfl rfl (one_spec hst hb hpos) ?_; clear hst; rintro e w ⟨vr, rfl, hst, hr⟩; refine ⟨_, rfl, ?_⟩; refine zm rfl rfl <| zx rfl rfl rfl <| zx rfl rfl rfl <| zx rfl rfl rfl <| zS rfl rfl <| zS rfl rfl <| zS rfl rfl <| zM <| zk <| zR ?_; refine zm rfl rfl <| z1 rfl (runs_not rfl) <| zM ?_; refine zb rfl (fun hc18 => ?_) (fun hc18 => ?_)
    · have hcb18 := hc18; (try simp only [dY, dF] at hc18); refine zR <| zS rfl rfl <| zS rfl rfl <| zM <| CW.ret <| zr <| AQ.block_ret <| zr <| AQ.block_ret <| zr ?_; refine AQ.ret2 rfl rfl rfl ?_
      have hn : dec1 (b.drop p) = none := by simpa using hc18
      rw [hd, decA_none hpos hn]; exact ⟨_, _, hle, rfl, hst.sub (List.sublist_append_right _ _), RdL.nil 1⟩
    · have hcb18 := hc18; (try simp only [dY, dF] at hc18); obtain ⟨⟨a, k⟩, hd1⟩ : ∃ x, dec1 (b.drop p) = some x := Option.isSome_iff_exists.1 (by simpa using hc18); rw [hd1] at hr ⊢; dsimp only at hr ⊢; have hga := dec1_good hd1; refine zj <| za <| zg <| zm rfl rfl <| zm rfl rfl <| ze rfl (runs_lit1R Tryz.underlying95 ti20 (by decide) rfl rfl rfl (by intro u hu; rw [List.mem_singleton.1 hu]; exact AV.one hga) hst) ?_; clear hst; rintro u2 w ⟨I2, hI2, hst, h2⟩; replace hb := hb.mono hI2; replace hr := hr.mono hI2; replace hle := hle.trans hI2; refine ze rfl (runs_appendR Tryz.underlying95 ti20 rfl (by decide) rfl rfl hst (by assumption) (by assumption) (by (try simp) <;> omega) (by (try simp) <;> (try unfold maxLen) <;> omega)) ?_; clear hst; rintro u3 w ⟨Lv3, hst, hg3⟩; refine zm rfl rfl <| zS rfl rfl <| zS rfl rfl <| zd <| zh ?_; have hk1 := dec1_pos hd1; have hk2 := dec1_le hpos hd1; rw [List.drop_drop] at hr; have hd2 := decA_some hpos hd1; rw [List.drop_drop] at hd2; exact AQ.again (x := (p, vb, vo, av, Lo, I5)) (p + k, _, _, av ++ [a], _, _) ⟨hle, hst, hr, GrowA.push (by assumption), by rw [hd, hd2, Option.map_map]; congr 1; funext x; simp, by omega, by rw [List.length_append]; simp only [List.length_cons, List.length_nil]; omega⟩ ⟨rfl, rfl, trivial⟩ (by dsimp only; omega)
  · have hcb10 := hc10; (try simp only [dY, dF] at hc10); refine CW.exit ?_; refine AQ.past_exit <| AQ.past_exit <| AQ.block_hit <| za <| zR <| zm rfl rfl <| zS rfl rfl <| zS rfl rfl <| zM <| CW.ret ?_; refine AQ.ret2 rfl rfl rfl ?_; have he : b.drop p = [] := List.eq_nil_of_length_eq_zero (by omega); rw [he, decA_nil] at hd; rw [hd]; obtain ⟨I', hI, hst, hr⟩ := Grow.freeze hg hst; exact ⟨I', _, hle.trans hI, rfl, hst, by simpa using hr⟩
def atA (av : List AV) (k : Int) : AV := if h : 0 ≤ k ∧ k < av.length then av[k.toNat]'(by omega) else .oth .nilIface
theorem atA_in {av : List AV} {k : Int} (h : 0 ≤ k ∧ k < av.length) : atA av k = av[k.toNat]'(by omega) := by unfold atA; rw [dif_pos h]
theorem atA_out {av : List AV} {k : Int} (h : ¬ (0 ≤ k ∧ k < av.length)) : atA av k = .oth .nilIface := by unfold atA; rw [dif_neg h]
theorem AV.weak {m : Nat} {o : Bool} {a : AV} (h : a.good m o) : a.good m true := by
  cases a <;> first | exact h | exact ⟨rfl, h.2⟩
theorem atA_good {m : Nat} {o : Bool} {av : List AV} (h : ∀ a ∈ av, a.good m o) (k : Int) : (atA av k).good m true := by
  by_cases hk : 0 ≤ k ∧ k < av.length
  · rw [atA_in hk]; exact AV.weak (h _ (List.getElem_mem _))
  · rw [atA_out hk]; exact ⟨rfl, rfl⟩
set_option maxRecDepth 100000 in
set_option maxHeartbeats 1000000 in
theorem at_spec {w0 w : World} {I : Imm} {L : Own} (hst : St w0 w I L) {v : Value} {av : List AV} (hv : RdA I v av) (k : Int) :
    Calls Tryz.prog 116 #[v, .int .i64 k] w fun e w' => e = .returned (atA av k).v ∧ St w0 w' I L := by
  refine enter Tryz.func116 rfl (N := 17) rfl rfl ?_
  simp only [zA, zB, zC, zD, zE, Nat.reduceAdd]
  have hle := Imm.le.refl I; refine zR <| zS rfl rfl <| zM <| zk <| zR <| zm rfl rfl <| z1 rfl (runs_lss rfl rfl) <| zm rfl rfl <| zi (t := 7) rfl (fun hb7 => ?_) (fun hb7 => ?_)
  · have hb7p := hb7; (try simp only [dY, dF] at hb7p); refine zH rfl rfl rfl rfl rfl rfl rfl rfl hb7 <| zf rfl rfl rfl rfl hb7 <| zt rfl rfl hb7 rfl <| zM <| CW.cond_true rfl ?_; refine zR <| zS rfl rfl <| zM <| CW.ret <| zr <| z9 rfl rfl ?_; rw [atA_out (by omega)]; exact ⟨rfl, hst⟩
  · have hb7p := hb7; (try simp only [dY, dF] at hb7p); refine zo rfl rfl rfl rfl hb7 <| zm rfl rfl <| zo rfl rfl rfl rfl hb7 <| zm rfl rfl <| zo rfl rfl rfl rfl hb7 <| z1 rfl (RdL.len Tryz.underlying95 rfl hv) <| zo rfl rfl rfl rfl hb7 <| z1 rfl (runs_geq rfl rfl) <| zn rfl rfl hb7 rfl <| zM ?_; refine zb rfl (fun hc12 => ?_) (fun hc12 => ?_)
    · have hcb12 := hc12; (try simp only [dY, dF] at hc12); refine zR <| zS rfl rfl <| zM <| CW.ret <| zr <| z9 rfl rfl ?_; rw [atA_out (by omega)]; exact ⟨rfl, hst⟩
    · have hcb12 := hc12; (try simp only [dY, dF] at hc12); refine zj <| za <| zR <| zm rfl rfl <| zm rfl rfl <| z1 rfl (RdL.indexAddr Tryz.underlying95 ti20 (by decide) rfl rfl hv (by omega)) ?_; refine z1 rfl (runs_load1 sc20 rfl (hst.cell_imm (RdA.at hv (by omega) (by omega)))) ?_; refine zS rfl rfl <| zM <| CW.ret <| z9 rfl rfl ?_; rw [atA_in (by omega)]; exact ⟨rfl, hst⟩
set_option maxRecDepth 100000 in
set_option maxHeartbeats 1000000 in
theorem int_spec {w0 w : World} {I : Imm} {L : Own} (hst : St w0 w I L) {v : Value} {av : List AV} {m : Nat} {o : Bool} (hv : RdA I v av) (hgood : ∀ a ∈ av, a.good m o) (k : Int) :
    Calls Tryz.prog 73 #[v, .int .i64 k] w fun e w' => e = .returned (.tuple #[asV 3 (.int .i64 0) (atA av k).v, .bool (asB 3 (atA av k).v)]) ∧ St w0 w' I L := by
  refine enter Tryz.func73 rfl (N := 17) rfl rfl ?_
  simp only [zA, zB, zC, zD, zE, Nat.reduceAdd]
  have hle := Imm.le.refl I; refine zR <| zS rfl rfl <| zS rfl rfl <| zN <| zm rfl rfl <| zm rfl rfl <| zK rfl call116 rfl rfl (at_spec hst hv k) ?_; clear hst; rintro e w ⟨rfl, hst⟩; have hisI := AV.isI (atA_good hgood k); refine ⟨_, rfl, ?_⟩; refine z1 rfl (runs_assertOk con3 ti3 rfl (by first | rfl | assumption)) ?_; refine zm rfl rfl <| zx rfl rfl rfl <| zx rfl rfl rfl <| zS rfl rfl <| zS rfl rfl <| zN <| zm rfl rfl <| zm rfl rfl <| zS rfl rfl <| zS rfl rfl ?_; refine zM <| CW.ret ?_; refine AQ.ret2 rfl rfl rfl ?_; exact ⟨rfl, hst⟩
set_option maxRecDepth 100000 in
set_option maxHeartbeats 1000000 in
theorem text__spec {w0 w : World} {I : Imm} {L : Own} (hst : St w0 w I L) {v : Value} {av : List AV} {m : Nat} {o : Bool} (hv : RdA I v av) (hgood : ∀ a ∈ av, a.good m o) (k : Int) :
    Calls Tryz.prog 72 #[v, .int .i64 k] w fun e w' => e = .returned (.tuple #[asV 9 (.string ⟨#[]⟩) (atA av k).v, .bool (asB 9 (atA av k).v)]) ∧ St w0 w' I L := by
  refine enter Tryz.func72 rfl (N := 17) rfl rfl ?_
  simp only [zA, zB, zC, zD, zE, Nat.reduceAdd]
  have hle := Imm.le.refl I; refine zR <| zS rfl rfl <| zS rfl rfl <| zN <| zm rfl rfl <| zm rfl rfl <| zK rfl call116 rfl rfl (at_spec hst hv k) ?_; clear hst; rintro e w ⟨rfl, hst⟩; have hisI := AV.isI (atA_good hgood k); refine ⟨_, rfl, ?_⟩; refine z1 rfl (runs_assertOk con9 ti9 rfl (by first | rfl | assumption)) ?_; refine zm rfl rfl <| zx rfl rfl rfl <| zx rfl rfl rfl <| zS rfl rfl <| zS rfl rfl <| zN <| zm rfl rfl <| zm rfl rfl <| zS rfl rfl <| zS rfl rfl ?_; refine zM <| CW.ret ?_; refine AQ.ret2 rfl rfl rfl ?_; exact ⟨rfl, hst⟩
set_option maxRecDepth 100000 in
set_option maxHeartbeats 1000000 in
theorem flag_spec {w0 w : World} {I : Imm} {L : Own} (hst : St w0 w I L) {v : Value} {av : List AV} {m : Nat} {o : Bool} (hv : RdA I v av) (hgood : ∀ a ∈ av, a.good m o) (k : Int) :
    Calls Tryz.prog 155 #[v, .int .i64 k] w fun e w' => e = .returned (.tuple #[asV 4 (.bool false) (atA av k).v, .bool (asB 4 (atA av k).v)]) ∧ St w0 w' I L := by
  refine enter Tryz.func155 rfl (N := 17) rfl rfl ?_
  simp only [zA, zB, zC, zD, zE, Nat.reduceAdd]
  have hle := Imm.le.refl I; refine zR <| zS rfl rfl <| zS rfl rfl <| zN <| zm rfl rfl <| zm rfl rfl <| zK rfl call116 rfl rfl (at_spec hst hv k) ?_; clear hst; rintro e w ⟨rfl, hst⟩; have hisI := AV.isI (atA_good hgood k); refine ⟨_, rfl, ?_⟩; refine z1 rfl (runs_assertOk con4 ti4 rfl (by first | rfl | assumption)) ?_; refine zm rfl rfl <| zx rfl rfl rfl <| zx rfl rfl rfl <| zS rfl rfl <| zS rfl rfl <| zN <| zm rfl rfl <| zm rfl rfl <| zS rfl rfl <| zS rfl rfl ?_; refine zM <| CW.ret ?_; refine AQ.ret2 rfl rfl rfl ?_; exact ⟨rfl, hst⟩
end Go.Proofs.YtadgbifmiooikaaGreatX
namespace Go.Proofs.YtadgbifmiooikaaGreatX
set_option linter.unusedVariables false
set_option linter.unusedSimpArgs false
open Go Go.RowKit
variable {w0 w : World} {I : Imm} {L : Own} {P : Program}
def hAV (hs : List HRow) : List AV := hs.flatMap fun h => [.txt h.1, .txt h.2]
def headAV (it : It) : List AV := [.num it.id, .num it.kind, .num it.group, .txt it.name, .txt it.method, .txt it.url, .num (it.heads.length : Int)]
def tailAV (it : It) : List AV := [.txt it.body, .num it.mode, .num it.creds, .txt it.page, .txt it.csp, .num it.refer, .txt it.nurl, .txt it.nmethod, .txt it.nbody, .num it.hops, .num it.tries, .num it.til, .flg it.tainted, .txt it.got, .txt it.tag, .num it.state, .num it.code, .flg it.acked]
def itAV (it : It) : List AV := headAV it ++ hAV it.heads ++ tailAV it
structure ItOk (it : It) : Prop where
  id : i64ok it.id
  kind : i64ok it.kind
  group : i64ok it.group
  mode : i64ok it.mode
  creds : i64ok it.creds
  refer : i64ok it.refer
  hops : i64ok it.hops
  tries : i64ok it.tries
  til : i64ok it.til
  state : i64ok it.state
  code : i64ok it.code
  len : it.heads.length ≤ 100000000
theorem hAV_len (hs : List HRow) : (hAV hs).length = hs.length * 2 := by
  unfold hAV
  induction hs with
  | nil => rfl
  | cons r t ih => rw [List.flatMap_cons, List.length_append, ih, List.length_cons]; simp; omega
theorem itAV_len (it : It) : (itAV it).length = 25 + it.heads.length * 2 := by
  unfold itAV; rw [List.length_append, List.length_append, hAV_len]
  show 7 + _ + 18 = _
  omega
def AV.goodB (a : AV) : Prop := ∃ m, a.good m false
theorem good_list : ∀ (av : List AV), (∀ a ∈ av, a.goodB) → ∃ m, ∀ a ∈ av, a.good m false
  | [], _ => ⟨0, by simp⟩
  | a :: r, h => by
    obtain ⟨m, hm⟩ := good_list r (fun x hx => h x (List.mem_cons_of_mem _ hx)); obtain ⟨k, hk⟩ := h a (List.mem_cons_self ..)
    have up : ∀ (x : AV) (i j : Nat), i ≤ j → x.good i false → x.good j false := by
      intro x i j hij hx
      cases x <;> first | exact hx | exact Nat.le_trans hx hij
    refine ⟨max m k, fun x hx => ?_⟩
    rcases List.mem_cons.1 hx with rfl | hx
    · exact up _ _ _ (Nat.le_max_right _ _) hk
    · exact up _ _ _ (Nat.le_max_left _ _) (hm x hx)
theorem goodN {n : Int} (h : i64ok n) : (AV.num n).goodB := ⟨0, h⟩
theorem goodT (b : ByteArray) : (AV.txt b).goodB := ⟨b.size, Nat.le_refl _⟩
theorem goodF (t : Bool) : (AV.flg t).goodB := ⟨0, trivial⟩
theorem hAV_good (hs : List HRow) : ∀ a ∈ hAV hs, a.goodB := by
  intro a ha; obtain ⟨r, _, h⟩ := List.mem_flatMap.1 ha
  simp only [List.mem_cons, List.not_mem_nil, or_false] at h
  rcases h with rfl | rfl <;> exact goodT _
theorem itAV_goodB {it : It} (h : ItOk it) : ∀ a ∈ itAV it, a.goodB := by
  intro a ha; unfold itAV at ha
  rcases List.mem_append.1 ha with ha | ha
  · rcases List.mem_append.1 ha with ha | ha
    · simp only [headAV, List.mem_cons, List.not_mem_nil, or_false] at ha
      rcases ha with rfl | rfl | rfl | rfl | rfl | rfl | rfl
      · exact goodN h.id
      · exact goodN h.kind
      · exact goodN h.group
      · exact goodT _
      · exact goodT _
      · exact goodT _
      · exact goodN (by have := h.len; unfold i64ok; omega)
    · exact hAV_good _ a ha
  · simp only [tailAV, List.mem_cons, List.not_mem_nil, or_false] at ha
    rcases ha with rfl | rfl | rfl | rfl | rfl | rfl | rfl | rfl | rfl | rfl | rfl | rfl | rfl | rfl | rfl | rfl | rfl | rfl
    · exact goodT _
    · exact goodN h.mode
    · exact goodN h.creds
    · exact goodT _
    · exact goodT _
    · exact goodN h.refer
    · exact goodT _
    · exact goodT _
    · exact goodT _
    · exact goodN h.hops
    · exact goodN h.tries
    · exact goodN h.til
    · exact goodF _
    · exact goodT _
    · exact goodT _
    · exact goodN h.state
    · exact goodN h.code
    · exact goodF _
theorem itAV_good {it : It} (h : ItOk it) : ∃ m, ∀ a ∈ itAV it, a.good m false := good_list _ (itAV_goodB h)
def numOf : AV → Int
  | .num n => n
  | _ => 0
def txtOf : AV → ByteArray
  | .txt b => b
  | _ => ⟨#[]⟩
def flgOf : AV → Bool
  | .flg t => t
  | _ => false
def isNum : AV → Bool
  | .num _ => true
  | _ => false
def isTxt : AV → Bool
  | .txt _ => true
  | _ => false
def isFlg : AV → Bool
  | .flg _ => true
  | _ => false
theorem as_num {m : Nat} {o : Bool} {a : AV} (h : a.good m o) : asV 3 (.int .i64 0) a.v = .int .i64 (numOf a) ∧ asB 3 a.v = isNum a := by
  cases a with
  | num n => simp [AV.v, asV, asB, numOf, isNum]
  | txt b => simp [AV.v, asV, asB, numOf, isNum]
  | flg t => simp [AV.v, asV, asB, numOf, isNum]
  | oth v =>
    have h2 := h.2
    cases v <;> simp [otherV, AV.v, asV, asB, numOf, isNum] at h2 ⊢
    exact ⟨fun e => absurd e h2.1.1, h2.1.1⟩
theorem as_txt {m : Nat} {o : Bool} {a : AV} (h : a.good m o) : asV 9 (.string ⟨#[]⟩) a.v = .string (txtOf a) ∧ asB 9 a.v = isTxt a := by
  cases a with
  | num n => simp [AV.v, asV, asB, txtOf, isTxt]
  | txt b => simp [AV.v, asV, asB, txtOf, isTxt]
  | flg t => simp [AV.v, asV, asB, txtOf, isTxt]
  | oth v =>
    have h2 := h.2
    cases v <;> simp [otherV, AV.v, asV, asB, txtOf, isTxt] at h2 ⊢
    exact ⟨fun e => absurd e h2.1.2, h2.1.2⟩
theorem as_flg {m : Nat} {o : Bool} {a : AV} (h : a.good m o) : asV 4 (.bool false) a.v = .bool (flgOf a) ∧ asB 4 a.v = isFlg a := by
  cases a with
  | num n => simp [AV.v, asV, asB, flgOf, isFlg]
  | txt b => simp [AV.v, asV, asB, flgOf, isFlg]
  | flg t => simp [AV.v, asV, asB, flgOf, isFlg]
  | oth v =>
    have h2 := h.2
    cases v <;> simp [otherV, AV.v, asV, asB, flgOf, isFlg] at h2 ⊢
    exact ⟨fun e => absurd e h2.2, h2.2⟩
theorem atA_nat {av : List AV} {k : Nat} (hk : k < av.length) : atA av (k : Int) = av[k] := by
  rw [atA_in (by omega)]
  rfl
theorem atA_far {av : List AV} {k : Nat} (hk : av.length ≤ k) : atA av (k : Int) = .oth .nilIface := atA_out (by omega)
theorem numOf_ok {m : Nat} {o : Bool} {a : AV} (h : a.good m o) : i64ok (numOf a) := by
  cases a <;> first | exact h | exact (by unfold i64ok; decide : i64ok 0)
theorem is_in {av : List AV} {k : Nat} (h : isNum (atA av k) = true ∨ isTxt (atA av k) = true ∨ isFlg (atA av k) = true) : k < av.length := by
  rcases Nat.lt_or_ge k av.length with h2 | h2
  · exact h2
  · rw [atA_far h2] at h
    simp [isNum, isTxt, isFlg] at h
def rdH (av : List AV) : Nat → Nat × Bool → List HRow × (Nat × Bool)
  | 0, s => ([], s)
  | k + 1, s => if s.2 = true then ([], s) else
    let r := rdH av k (s.1 + 2, !(isTxt (atA av s.1)) || !(isTxt (atA av (s.1 + 1 : Nat))))
    ((txtOf (atA av s.1), txtOf (atA av (s.1 + 1 : Nat))) :: r.1, r.2)
theorem rdH_bad (av : List AV) (k : Nat) (s : Nat × Bool) (h : s.2 = true) : rdH av k s = ([], s) := by
  cases k with
  | zero => rfl
  | succ k => rw [rdH, if_pos h]
theorem rdH_len (av : List AV) : ∀ (k : Nat) (s : Nat × Bool), (s.2 = false → s.1 ≤ av.length) → (rdH av k s).1.length * 2 + s.1 = (rdH av k s).2.1 ∧ (rdH av k s).2.1 ≤ max s.1 (av.length + 2)
  | 0, s, h => ⟨by simp [rdH], by simp [rdH]; omega⟩
  | k + 1, s, h => by
    by_cases hb : s.2 = true
    · rw [rdH_bad av _ s hb]; exact ⟨by simp, by simp; omega⟩
    · have hs := h (by simpa using hb); rw [rdH, if_neg hb]
      obtain ⟨h1, h2⟩ := rdH_len av k (s.1 + 2, !(isTxt (atA av s.1)) || !(isTxt (atA av (s.1 + 1 : Nat)))) (by
        intro hf
        simp only [Bool.or_eq_false_iff, Bool.not_eq_false'] at hf
        have := is_in (.inr (.inl hf.2)); dsimp only
        omega)
      dsimp only at h1 h2 ⊢; refine ⟨by rw [List.length_cons]; omega, by omega⟩
def tailBad (av : List AV) (p : Nat) : Bool := !(isTxt (atA av p) && isNum (atA av (p + 1 : Nat)) && isNum (atA av (p + 2 : Nat)) && isTxt (atA av (p + 3 : Nat)) && isTxt (atA av (p + 4 : Nat)) && isNum (atA av (p + 5 : Nat)) && isTxt (atA av (p + 6 : Nat)) && isTxt (atA av (p + 7 : Nat)) && isTxt (atA av (p + 8 : Nat)) && isNum (atA av (p + 9 : Nat)) && isNum (atA av (p + 10 : Nat)) && isNum (atA av (p + 11 : Nat)) && isFlg (atA av (p + 12 : Nat)) && isTxt (atA av (p + 13 : Nat)) && isTxt (atA av (p + 14 : Nat)) && isNum (atA av (p + 15 : Nat)) && isNum (atA av (p + 16 : Nat)) && isFlg (atA av (p + 17 : Nat)))
def headBad (av : List AV) : Bool := !(isNum (atA av (0 : Nat)) && isNum (atA av (1 : Nat)) && isNum (atA av (2 : Nat)) && isTxt (atA av (3 : Nat)) && isTxt (atA av (4 : Nat)) && isTxt (atA av (5 : Nat)) && isNum (atA av (6 : Nat)))
def mkIt (av : List AV) (hs : List HRow) (p : Nat) : It := ⟨numOf (atA av (0 : Nat)), numOf (atA av (1 : Nat)), numOf (atA av (2 : Nat)), txtOf (atA av (3 : Nat)), txtOf (atA av (4 : Nat)), txtOf (atA av (5 : Nat)), hs, txtOf (atA av p), numOf (atA av (p + 1 : Nat)), numOf (atA av (p + 2 : Nat)), txtOf (atA av (p + 3 : Nat)), txtOf (atA av (p + 4 : Nat)), numOf (atA av (p + 5 : Nat)), txtOf (atA av (p + 6 : Nat)), txtOf (atA av (p + 7 : Nat)), txtOf (atA av (p + 8 : Nat)), numOf (atA av (p + 9 : Nat)), numOf (atA av (p + 10 : Nat)), numOf (atA av (p + 11 : Nat)), flgOf (atA av (p + 12 : Nat)), txtOf (atA av (p + 13 : Nat)), txtOf (atA av (p + 14 : Nat)), numOf (atA av (p + 15 : Nat)), numOf (atA av (p + 16 : Nat)), flgOf (atA av (p + 17 : Nat))⟩
def readH (av : List AV) : List HRow × (Nat × Bool) := rdH av (numOf (atA av (6 : Nat))).toNat (7, headBad av)
def readIt (av : List AV) : It := mkIt av (readH av).1 (readH av).2.1
def readBad (av : List AV) : Bool := (readH av).2.2 || tailBad av (readH av).2.1
theorem mkIt_ok {m : Nat} {o : Bool} {av : List AV} (h : ∀ a ∈ av, a.good m o) {hs : List HRow} (hh : hs.length ≤ 100000000) (p : Nat) : ItOk (mkIt av hs p) :=
  ⟨numOf_ok (atA_good h _), numOf_ok (atA_good h _), numOf_ok (atA_good h _), numOf_ok (atA_good h _), numOf_ok (atA_good h _), numOf_ok (atA_good h _), numOf_ok (atA_good h _), numOf_ok (atA_good h _), numOf_ok (atA_good h _), numOf_ok (atA_good h _), numOf_ok (atA_good h _), hh⟩
theorem readH_le (av : List AV) : (readH av).1.length * 2 + 7 = (readH av).2.1 ∧ (readH av).2.1 ≤ av.length + 9 := by
  have h := rdH_len av (numOf (atA av (6 : Nat))).toNat (7, headBad av) (by
    intro hb
    have : isNum (atA av (6 : Nat)) = true := by
      unfold headBad at hb
      simp only [Bool.not_eq_false', Bool.and_eq_true] at hb
      exact hb.2
    have := is_in (.inl this); dsimp only
    omega)
  exact ⟨h.1, by have := h.2; unfold readH; dsimp only at this ⊢; omega⟩
def decIt (b : List UInt8) : Option It := match decA b with
  | none => none
  | some av => if readBad av = false ∧ encOk (itAV (readIt av)) = true ∧ encA (itAV (readIt av)) = b then some (readIt av) else none
theorem rdH_self (pre post : List AV) : ∀ (hs acc : List HRow), rdH (pre ++ hAV (acc ++ hs) ++ post) hs.length (pre.length + acc.length * 2, false) = (hs, (pre.length + (acc.length + hs.length) * 2, false))
  | [], acc => by simp [rdH]
  | h :: t, acc => by
    have hl : (pre ++ hAV (acc ++ h :: t) ++ post).length = pre.length + (acc.length + t.length + 1) * 2 + post.length := by
      rw [List.length_append, List.length_append, hAV_len, List.length_append, List.length_cons]; omega
    have e0 : pre ++ hAV (acc ++ h :: t) ++ post = (pre ++ hAV acc) ++ (AV.txt h.1 :: AV.txt h.2 :: (hAV t ++ post)) := by
      unfold hAV; rw [List.flatMap_append, List.flatMap_cons]
      simp
    have hpl : (pre ++ hAV acc).length = pre.length + acc.length * 2 := by rw [List.length_append, hAV_len]
    have a0 : atA (pre ++ hAV (acc ++ h :: t) ++ post) ((pre.length + acc.length * 2 : Nat) : Int) = .txt h.1 := by
      rw [atA_nat (by rw [hl]; omega)]
      simp only [e0]
      rw [List.getElem_append_right (by omega)]
      simp [hpl]
    have a1 : atA (pre ++ hAV (acc ++ h :: t) ++ post) ((pre.length + acc.length * 2 + 1 : Nat) : Int) = .txt h.2 := by
      rw [atA_nat (by rw [hl]; omega)]
      simp only [e0]
      rw [List.getElem_append_right (by omega)]
      simp [hpl, show pre.length + acc.length * 2 + 1 - (pre.length + acc.length * 2) = 1 by omega]
    have ih := rdH_self pre post t (acc ++ [h]); rw [List.length_cons, rdH, if_neg (Bool.false_ne_true)]; dsimp only; rw [a0, a1]; rw [show acc ++ h :: t = (acc ++ [h]) ++ t by simp]; rw [List.length_append, List.length_singleton] at ih; rw [show pre.length + acc.length * 2 + 2 = pre.length + (acc.length + 1) * 2 by omega]
    show ((h.1, h.2) :: (rdH _ t.length (pre.length + (acc.length + 1) * 2, false)).1, (rdH _ t.length (pre.length + (acc.length + 1) * 2, false)).2) = _
    rw [ih, show pre.length + (acc.length + 1 + t.length) * 2 = pre.length + (acc.length + (t.length + 1)) * 2 by omega]
theorem at_head (it : It) {j : Nat} (hj : j < 7) : atA (itAV it) (j : Int) = (headAV it)[j]'hj := by
  rw [atA_nat (by rw [itAV_len]; omega)]; unfold itAV; rw [List.getElem_append_left (by rw [List.length_append, hAV_len]; show j < 7 + _; omega), List.getElem_append_left (show j < (headAV it).length from hj)]
  rfl
theorem at_tail (it : It) {j : Nat} (hj : j < 18) : atA (itAV it) ((7 + it.heads.length * 2 + j : Nat) : Int) = (tailAV it)[j]'hj := by
  have hl : (headAV it ++ hAV it.heads).length = 7 + it.heads.length * 2 := by rw [List.length_append, hAV_len]; rfl
  rw [atA_nat (by rw [itAV_len]; omega)]; unfold itAV; rw [List.getElem_append_right (by omega)]
  congr 1
  omega
theorem readH_self (it : It) : readH (itAV it) = (it.heads, (7 + it.heads.length * 2, false)) := by
  have e6 : atA (itAV it) ((6 : Nat) : Int) = .num (it.heads.length : Int) := at_head it (j := 6) (by decide)
  have hb : headBad (itAV it) = false := by
    unfold headBad; rw [at_head it (j := 0) (by decide), at_head it (j := 1) (by decide), at_head it (j := 2) (by decide), at_head it (j := 3) (by decide), at_head it (j := 4) (by decide), at_head it (j := 5) (by decide), at_head it (j := 6) (by decide)]
    rfl
  unfold readH; rw [e6, hb]; have h := rdH_self (headAV it) (tailAV it) it.heads []
  simp only [List.nil_append, List.length_nil, Nat.zero_mul, Nat.add_zero, Nat.zero_add] at h
  exact h
theorem readIt_self (it : It) : readIt (itAV it) = it ∧ readBad (itAV it) = false := by
  unfold readIt readBad; rw [readH_self]; dsimp only; have t0 := at_tail it (j := 0) (by decide); rw [Nat.add_zero] at t0; refine ⟨?_, ?_⟩
  · unfold mkIt; rw [t0, at_head it (j := 0) (by decide), at_head it (j := 1) (by decide), at_head it (j := 2) (by decide), at_head it (j := 3) (by decide), at_head it (j := 4) (by decide), at_head it (j := 5) (by decide), at_tail it (j := 1) (by decide), at_tail it (j := 2) (by decide), at_tail it (j := 3) (by decide), at_tail it (j := 4) (by decide), at_tail it (j := 5) (by decide), at_tail it (j := 6) (by decide), at_tail it (j := 7) (by decide), at_tail it (j := 8) (by decide), at_tail it (j := 9) (by decide), at_tail it (j := 10) (by decide), at_tail it (j := 11) (by decide), at_tail it (j := 12) (by decide), at_tail it (j := 13) (by decide), at_tail it (j := 14) (by decide), at_tail it (j := 15) (by decide), at_tail it (j := 16) (by decide), at_tail it (j := 17) (by decide)]
    rfl
  · unfold tailBad; rw [t0, at_tail it (j := 1) (by decide), at_tail it (j := 2) (by decide), at_tail it (j := 3) (by decide), at_tail it (j := 4) (by decide), at_tail it (j := 5) (by decide), at_tail it (j := 6) (by decide), at_tail it (j := 7) (by decide), at_tail it (j := 8) (by decide), at_tail it (j := 9) (by decide), at_tail it (j := 10) (by decide), at_tail it (j := 11) (by decide), at_tail it (j := 12) (by decide), at_tail it (j := 13) (by decide), at_tail it (j := 14) (by decide), at_tail it (j := 15) (by decide), at_tail it (j := 16) (by decide), at_tail it (j := 17) (by decide)]
    rfl
theorem encOk_good {m : Nat} {av : List AV} (h : ∀ a ∈ av, a.good m false) (ho : encOk av = true) : ∀ a ∈ av, a.good 255 false := by
  intro a ha; have h1 := h a ha; have h2 := List.all_eq_true.1 ho a ha
  cases a with
  | num n => exact h1
  | txt b => exact (by simpa [enc1Ok] using h2 : b.size ≤ 255)
  | flg t => trivial
  | oth v => exact h1
theorem decIt_self {it : It} (h : ItOk it) (ho : encOk (itAV it) = true) : decIt (encA (itAV it)) = some it := by
  obtain ⟨m, hm⟩ := itAV_good h; obtain ⟨h1, h2⟩ := readIt_self it; unfold decIt; rw [decA_encA (Nat.le_refl 255) (encOk_good hm ho)]; dsimp only; rw [h1, h2, if_pos ⟨rfl, ho, rfl⟩]
theorem decIt_eq {b : List UInt8} {it : It} (h : decIt b = some it) : encOk (itAV it) = true ∧ encA (itAV it) = b := by
  unfold decIt at h
  cases hd : decA b with
  | none => rw [hd] at h; cases h
  | some av =>
    rw [hd] at h; dsimp only at h
    split at h
    · rename_i hc
      cases h
      exact hc.2
    · cases h
end Go.Proofs.YtadgbifmiooikaaGreatX
