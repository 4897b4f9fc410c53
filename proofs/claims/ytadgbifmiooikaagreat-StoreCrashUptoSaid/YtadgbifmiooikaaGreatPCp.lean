/- Parts of a proof, joined: walks through the program's functions and their laws, in the order in which they need each other. -/
import Derived.Test.YtadgbifmiooikaaGreatPCb
import Derived.Test.YtadgbifmiooikaaGreatPCo
namespace Go.Proofs.YtadgbifmiooikaaGreatX
set_option linter.unusedVariables false
set_option linter.unusedSimpArgs false
open Go Go.RowKit Go.Proofs
theorem take_flat : ∀ (hs : List HRow) (k : Nat), (hs.take k).flatMap hrow = (hs.flatMap hrow).take (k * 2)
  | [], k => by simp
  | r :: t, 0 => by simp
  | r :: t, k + 1 => by
    rw [List.take_succ_cons, List.flatMap_cons, List.flatMap_cons, take_flat t k, show (k + 1) * 2 = k * 2 + 1 + 1 from by omega]
    rfl
theorem RdH.takeP {I : Imm} {v : Value} {hs : List HRow} (h : RdH I v hs) {k : Nat} (hk : k ≤ hs.length) : RdH I (partV v 0 k 2) (hs.take k) := by
  have := RdL.partV h (lo := 0) (hi := k) (Nat.zero_le _) hk
  simp only [Nat.zero_mul, List.drop_zero, Nat.sub_zero] at this
  unfold RdH; rw [List.length_take, Nat.min_eq_left hk, take_flat]; exact this
def CspOk (c : ByteArray) : Prop := c = ⟨#[]⟩ ∨ c = ⟨#[39, 115, 101, 108, 102, 39]⟩ ∨ c = ⟨#[42]⟩
theorem CspOk.nb {c : ByteArray} (h : CspOk c) : ∀ j, j < c.toList.length → c.toList.getD j 0 ≠ 32 := by
  intro j hj; have hm : ∃ y ∈ c.toList, c.toList.getD j 0 = y := ⟨_, List.getElem_mem hj, get_getD hj⟩; obtain ⟨y, hy, e⟩ := hm; rw [e]; rintro rfl
  revert hy
  rcases h with rfl | rfl | rfl <;> (rw [ByteArray.toList_eq]; decide)
theorem CspOk.sz {c : ByteArray} (h : CspOk c) : c.size ≤ 6 := by rcases h with rfl | rfl | rfl <;> decide
theorem CspOk.low {c : ByteArray} (h : CspOk c) (h0 : 0 < c.size) : strOf (lower c.toList) = ⟨#[39, 115, 101, 108, 102, 39]⟩ ∨ strOf (lower c.toList) = ⟨#[42]⟩ := by
  rcases h with rfl | rfl | rfl
  · exact absurd h0 (by decide)
  · left; rw [ByteArray.toList_eq]; rfl
  · right; rw [ByteArray.toList_eq]; rfl
theorem ext_step (s : ByteArray) (k : Nat) : s.extract 0 k ++ s.extract k (k + 1) = s.extract 0 (k + 1) := by
  rw [ByteArray.extract_append_extract, Nat.min_eq_left (Nat.zero_le _), Nat.max_eq_right (by omega)]
theorem ext_all (s : ByteArray) : s.extract 0 s.toList.length = s := by rw [size_toList, ByteArray.extract_zero_size]
set_option maxRecDepth 100000 in
set_option maxHeartbeats 1000000 in
theorem checkheads_spec {w0 w : World} {I : Imm} {L : Own} (hst : St w0 w I L) {v : Value} {hs : List HRow} (hv : RdH I v hs) (hok : ∀ r ∈ hs, r.1.size ≤ 1000000000 ∧ r.2.size ≤ 1000000000) :
    Calls Tryz.prog 61 #[v] w fun e w' => ∃ I' n, I.le I' ∧ e = .returned (.int .i64 n) ∧ St w0 w' I' L := by
  refine enter Tryz.func61 rfl (N := 58) rfl rfl ?_
  simp only [zA, zB, zC, zD, zE, Nat.reduceAdd]
  have hle := Imm.le.refl I; refine zR <| zS rfl rfl <| zM <| zk <| zR <| zm rfl rfl <| z1 rfl (RdL.len Tryz.underlying34 rfl hv) <| z1 rfl (runs_gtr rfl rfl) <| zM <| zb rfl (fun hc11 => ?_) (fun hc11 => ?_)
  · refine zR <| zS rfl rfl <| zM <| CW.ret <| zr <| z9 rfl rfl ?_; exact ⟨_, _, hle, rfl, hst⟩
  · have hcb11 := hc11; (try simp only [dY, dF] at hc11)
    have hl2 : hs.length ≤ 2 := by omega
    refine zj <| za <| zk <| zR <| zm rfl rfl <| z1 rfl (RdL.len Tryz.underlying34 rfl hv) <| zm rfl rfl <| zM <| CW.block <| CW.loop (Nat × Imm) (fun x w => I.le x.2 ∧ St w0 w x.2 L ∧ x.1 ≤ hs.length) (fun x => [(0, v), (12, v), (13, .int .i64 (hs.length : Int)), (14, .int .i64 (x.1 : Int))]) (fun x => hs.length - x.1) ⟨(0, I), ⟨Imm.le.refl _, hst, Nat.zero_le _⟩, ⟨rfl, rfl, rfl, rfl, trivial⟩⟩ ?_; clear hst hle; rintro ⟨k, I5⟩ w ⟨hle, hstn, hk⟩; dsimp only at hle hstn hk ⊢; have hst := hstn; clear hstn; have hv5 := RdL.mono hle hv; refine zR <| z1 rfl (runs_lss rfl rfl) <| zM <| zk <| zb rfl (fun hc15 => ?_) (fun hc15 => ?_)
    · have hcb15 := hc15; (try simp only [dY, dF] at hc15)
      have hk1 : k < hs.length := by omega
      obtain ⟨r, hr⟩ : ∃ r, hs[k] = r := ⟨_, rfl⟩
      have hr2 : hs[k]? = some r := by rw [List.getElem?_eq_getElem hk1, hr]
      have hrs := hok r (by rw [← hr]; exact List.getElem_mem _); refine zj <| za <| zk <| CW.block <| zR <| z1 rfl (RdL.indexAddr Tryz.underlying34 ti54 (by decide) rfl rfl hv5 (by omega)) ?_; refine z1 rfl (RdL.loadRow (row := hrow r) ag54 ti54 rfl hv5 hst rfl (hrow_at hr2)) ?_; refine ze rfl (runs_alloc ti54 hst) ?_; clear hst; rintro _ w ⟨b1, rfl, hst⟩; refine zw 0 ti54 rfl rfl hst rfl rfl rfl rfl ?_; clear hst; rintro w hst; (try simp only [sZ, sS] at hst); refine zN <| zp rfl rfl U54 rfl ti9 rfl <| zl 0 rfl sc9 rfl hst rfl rfl <| zK rfl call98 rfl rfl (named_spec hst r.1 hrs.1 12) ?_; clear hst; rintro e w ⟨b1b, rfl, hst⟩; refine ⟨_, rfl, ?_⟩; refine z1 rfl (runs_not rfl) <| zm rfl rfl <| zi (t := 22) rfl (fun hb22 => ?_) (fun hb22 => ?_)
      · refine zH rfl rfl rfl rfl rfl rfl rfl rfl hb22 <| zf rfl rfl rfl rfl hb22 <| zt rfl rfl hb22 rfl <| zm rfl rfl <| zH rfl rfl rfl rfl rfl rfl rfl rfl rfl <| zt rfl rfl rfl rfl <| zM <| CW.cond_true rfl ?_; refine zR <| zS rfl rfl <| zM <| CW.ret <| AQ.block_ret <| zr <| zr <| AQ.block_ret <| zr <| z9 rfl rfl ?_; exact ⟨_, _, hle, rfl, hst.drop1⟩
      · have hb22p := hb22; (try simp only [dY, dF] at hb22p); refine zo rfl rfl rfl rfl hb22 <| zp rfl rfl U54 rfl ti9 rfl <| zo rfl rfl rfl rfl hb22 <| zl 0 rfl sc9 rfl hst rfl rfl <| zo rfl rfl rfl rfl hb22 <| zK rfl call99 rfl rfl (valued_spec hst r.2 hrs.2 16) ?_; clear hst; rintro e w ⟨b2b, rfl, hst⟩; refine ⟨_, rfl, ?_⟩; refine zo rfl rfl rfl rfl hb22 <| z1 rfl (runs_not rfl) <| zn rfl rfl hb22 rfl <| zm rfl rfl <| zi (t := 28) rfl (fun hb28 => ?_) (fun hb28 => ?_)
        · refine zH rfl rfl rfl rfl rfl rfl rfl rfl hb28 <| zt rfl rfl hb28 rfl <| zM <| CW.cond_true rfl ?_; refine zR <| zS rfl rfl <| zM <| CW.ret <| AQ.block_ret <| zr <| zr <| AQ.block_ret <| zr <| z9 rfl rfl ?_; exact ⟨_, _, hle, rfl, hst.drop1⟩
        · have hb28p := hb28; (try simp only [dY, dF] at hb28p); refine zo rfl rfl rfl rfl hb28 <| zp rfl rfl U54 rfl ti9 rfl <| zo rfl rfl rfl rfl hb28 <| zl 0 rfl sc9 rfl hst rfl rfl <| zo rfl rfl rfl rfl hb28 <| zK rfl call100 rfl rfl (forb_spec hst r.1 hrs.1) ?_; clear hst; rintro e w ⟨J31, b3b, hJ31, rfl, hst⟩; replace hle := hle.trans hJ31; refine ⟨_, rfl, ?_⟩; refine zn rfl rfl hb28 rfl <| zM <| zb rfl (fun hc32 => ?_) (fun hc32 => ?_)
          · refine zR <| zS rfl rfl <| zM <| CW.ret <| AQ.block_ret <| zr <| zr <| AQ.block_ret <| zr <| z9 rfl rfl ?_; exact ⟨_, _, hle, rfl, hst.drop1⟩
          · have hcb32 := hc32; (try simp only [dY, dF] at hc32); refine zj <| zh <| za <| zg <| z1 rfl (runs_add rfl rfl (by omega)) ?_; refine zm rfl rfl <| zd ?_; exact AQ.again (x := (k, I5)) (k + 1, _) ⟨hle, hst.drop1, by omega⟩ ⟨rfl, rfl, rfl, rfl, trivial⟩ (by dsimp only; omega)
    · have hcb15 := hc15; (try simp only [dY, dF] at hc15); refine CW.exit ?_; refine AQ.past_exit <| AQ.past_exit <| AQ.block_hit <| za <| zk <| zR <| zm rfl rfl <| z1 rfl (RdL.len Tryz.underlying34 rfl hv) <| zm rfl rfl <| zM ?_; refine CW.block ?_; refine CW.loop (Nat × Imm) (fun x w => I.le x.2 ∧ St w0 w x.2 L ∧ x.1 ≤ hs.length) (fun x => [(0, v), (34, v), (35, .int .i64 (hs.length : Int)), (36, .int .i64 (x.1 : Int))]) (fun x => hs.length - x.1) ⟨(0, _), ⟨hle, hst, Nat.zero_le _⟩, ⟨rfl, rfl, rfl, rfl, trivial⟩⟩ ?_; clear hst hle; rintro ⟨k, I5⟩ w ⟨hle, hstn, hk⟩; dsimp only at hle hstn hk ⊢; have hst := hstn; clear hstn; have hv5 := RdL.mono hle hv; refine zR <| z1 rfl (runs_lss rfl rfl) <| zM <| zk <| zb rfl (fun hc37 => ?_) (fun hc37 => ?_)
      · have hcb37 := hc37; (try simp only [dY, dF] at hc37)
        have hk1 : k < hs.length := by omega
        obtain ⟨r, hr⟩ : ∃ r, hs[k] = r := ⟨_, rfl⟩
        have hr2 : hs[k]? = some r := by rw [List.getElem?_eq_getElem hk1, hr]
        have hrs := hok r (by rw [← hr]; exact List.getElem_mem _); have hcut := RdH.takeP hv5 hk
        have hlt : (hs.take k).length = k := by rw [List.length_take]; omega
        refine zj <| za <| zk <| CW.block <| zR <| zm rfl rfl <| z1 rfl (RdL.indexAddr Tryz.underlying34 ti54 (by decide) rfl rfl hv5 (by omega)) ?_; refine z1 rfl (RdL.loadRow (row := hrow r) ag54 ti54 rfl hv5 hst rfl (hrow_at hr2)) ?_; refine ze rfl (runs_alloc ti54 hst) ?_; clear hst; rintro _ w ⟨b6, rfl, hst⟩; obtain ⟨bh, hbh⟩ : ∃ b, b = b6 := ⟨_, rfl⟩; subst hbh; refine zS rfl rfl ?_; refine zw 0 ti54 rfl rfl hst rfl rfl rfl rfl ?_; clear hst; rintro w hst; (try simp only [sZ, sS] at hst); refine zN <| zm rfl rfl <| zm rfl rfl <| z1 rfl (RdL.slice_h Tryz.underlying34 ti54 rfl rfl hv5 (by omega)) ?_; rw [Int.toNat_natCast]; obtain ⟨vk, hvk⟩ : ∃ x, partV v 0 k 2 = x := ⟨_, rfl⟩; rw [hvk] at hcut ⊢; refine z1 rfl (RdL.len Tryz.underlying34 rfl hcut) ?_; rw [hlt]; refine zm rfl rfl <| zM <| CW.block <| CW.loop (Nat × Imm) (fun x w => I.le x.2 ∧ RdH x.2 vk (hs.take k) ∧ St w0 w x.2 ((bh, .cells (hrow r).toArray 54) :: L) ∧ x.1 ≤ k) (fun x => [(0, v), (6, .pointer (some ⟨bh, 0, none⟩)), (34, v), (35, .int .i64 (hs.length : Int)), (36, .int .i64 (k : Int)), (43, vk), (44, .int .i64 (k : Int)), (45, .int .i64 (x.1 : Int))]) (fun x => k - x.1) ⟨(0, _), ⟨hle, hcut, hst, Nat.zero_le _⟩, ⟨rfl, rfl, rfl, rfl, rfl, rfl, rfl, rfl, trivial⟩⟩ ?_; clear hst hle hcut; rintro ⟨j, I6⟩ w ⟨hle, hv6, hstn, hj⟩; dsimp only at hle hv6 hstn hj ⊢; have hst := hstn; clear hstn; refine zR <| z1 rfl (runs_lss rfl rfl) <| zM <| zk <| zb rfl (fun hc46 => ?_) (fun hc46 => ?_)
        · have hcb46 := hc46; (try simp only [dY, dF] at hc46)
          have hj1 : j < (hs.take k).length := by omega
          obtain ⟨q, hq⟩ : ∃ q, (hs.take k)[j] = q := ⟨_, rfl⟩
          have hq2 : (hs.take k)[j]? = some q := by rw [List.getElem?_eq_getElem hj1, hq]
          have hqs := hok q (List.mem_of_mem_take (by rw [← hq]; exact List.getElem_mem _)); refine zj <| za <| zk <| CW.block <| zR <| z1 rfl (RdL.indexAddr Tryz.underlying34 ti54 (by decide) rfl rfl hv6 (by omega)) ?_; refine z1 rfl (RdL.loadRow (row := hrow q) ag54 ti54 rfl hv6 hst rfl (hrow_at hq2)) ?_; refine ze rfl (runs_alloc ti54 hst) ?_; clear hst; rintro _ w ⟨b8, rfl, hst⟩; refine zw 0 ti54 rfl rfl hst rfl rfl rfl rfl ?_; clear hst; rintro w hst; (try simp only [sZ, sS] at hst); refine zM <| zk ?_; refine CW.drawSt hst (.q 0 (.q 1 (.q 3 (.q 4 (.l 2 (.l 5 (.q 6 .nil))))))) follows (by kernel_rfl) (fun w hst => ?_); refine yp rfl rfl rfl U54 rfl ti9 rfl <| yl 0 rfl rfl sc9 rfl rfl rfl <| yp rfl rfl rfl U54 rfl ti9 rfl <| yl 1 rfl rfl sc9 rfl rfl rfl <| yC rfl rfl call91 rfl rfl (refLower_spec hst q.1 (by omega)) ?_; clear hst; rintro e w ⟨I10, hI10, rfl, hst⟩; replace hv6 := hv6.mono hI10; replace hle := hle.trans hI10; refine ⟨_, rfl, FSt.ofA hst hI10, ?_⟩; refine yC rfl rfl call91 rfl rfl (refLower_spec hst r.1 (by omega)) ?_; clear hst; rintro e w ⟨I11, hI11, rfl, hst⟩; replace hv6 := hv6.mono hI11; replace hle := hle.trans hI11; refine ⟨_, rfl, FSt.ofA hst (hI10.trans hI11), ?_⟩; refine DRW.q rfl rfl (fun w' hF => runs_eqS rfl rfl) ?_; refine DRW.done <| za <| zb rfl (fun hc55 => ?_) (fun hc55 => ?_)
          · refine zR <| zS rfl rfl <| zM <| CW.ret <| AQ.block_ret <| zr <| zr <| AQ.block_ret <| AQ.block_ret <| zr ?_; refine zr <| AQ.block_ret <| zr ?_; refine z9 rfl rfl ?_; exact ⟨_, _, hle, rfl, hst.drop1.drop1⟩
          · have hcb55 := hc55; (try simp only [dY, dF] at hc55); refine zj <| zh <| za <| zg <| z1 rfl (runs_add rfl rfl (by omega)) ?_; refine zm rfl rfl <| zd ?_; exact AQ.again (x := (j, I6)) (j + 1, _) ⟨hle, hv6, hst.drop1, by omega⟩ ⟨rfl, rfl, rfl, rfl, rfl, rfl, rfl, rfl, trivial⟩ (by dsimp only; omega)
        · have hcb46 := hc46; (try simp only [dY, dF] at hc46); refine CW.exit ?_; refine AQ.past_exit <| AQ.past_exit <| AQ.block_hit <| zh <| za <| zg <| z1 rfl (runs_add rfl rfl (by omega)) ?_; refine zm rfl rfl <| zd ?_; exact AQ.again (x := (k, I5)) (k + 1, _) ⟨hle, hst.drop1, by omega⟩ ⟨rfl, rfl, rfl, rfl, trivial⟩ (by dsimp only; omega)
      · refine CW.exit ?_; refine AQ.past_exit <| AQ.past_exit <| AQ.block_hit <| za <| zR <| zS rfl rfl <| zM <| CW.ret <| z9 rfl rfl ?_; exact ⟨_, _, hle, rfl, hst⟩
set_option maxRecDepth 100000 in
set_option maxHeartbeats 1000000 in
theorem words_spec {w0 w : World} {I : Imm} {L : Own} (hst : St w0 w I L) (s : ByteArray) (hs : s.size ≤ 1000) (hnb : ∀ j, j < s.toList.length → s.toList.getD j 0 ≠ 32) :
    Calls Tryz.prog 124 #[.string s] w fun e w' => ∃ I' v ws, I.le I' ∧ e = .returned v ∧ RdS I' v ws ∧ (∀ x ∈ ws, x = s ∧ 0 < x.size) ∧ ws.length ≤ 1 ∧ St w0 w' I' L := by
  have hsz := size_toList s; refine enter Tryz.func124 rfl (N := 36) rfl rfl ?_
  simp only [zA, zB, zC, zD, zE, Nat.reduceAdd]
  have hle := Imm.le.refl I; refine zR <| zS rfl rfl <| zN <| zS rfl rfl <| zN <| zS rfl rfl <| zM <| zk <| zR <| zS rfl rfl ?_; refine zM <| CW.block ?_; refine CW.loop (Nat × Imm × Own × Value × List ByteArray × ByteArray) (fun x w => x.1 ≤ s.toList.length + 1 ∧ I.le x.2.1 ∧ St w0 w x.2.1 (x.2.2.1 ++ L) ∧ Grow 9 1 x.2.2.2.1 (x.2.2.2.2.1).length ((x.2.2.2.2.1).map Value.string) x.2.2.1 ∧ (x.1 ≤ s.toList.length → x.2.2.2.2.2 = s.extract 0 (x.1) ∧ x.2.2.2.2.1 = []) ∧ (∀ z ∈ x.2.2.2.2.1, z = s ∧ 0 < z.size) ∧ x.2.2.2.2.1.length ≤ 1) (fun x => [(0, .string s), (3, x.2.2.2.1), (4, .string x.2.2.2.2.2), (5, .int .i64 (x.1 : Int))]) (fun x => s.toList.length + 1 - x.1) ⟨(0, I, [], _, [], _), ⟨Nat.zero_le _, Imm.le.refl _, hst, Grow.nil _ _, fun _ => ⟨by simp; rfl, rfl⟩, by simp, by simp⟩, ⟨rfl, rfl, rfl, rfl, trivial⟩⟩ ?_; clear hst hle; rintro ⟨k, J, Lo, vl, ps, wv⟩ w ⟨hk, hle, hstn, hg, hw, hps, hpl⟩; dsimp only at hk hle hstn hg hw hps hpl ⊢; have hst := hstn; clear hstn; refine zk <| zR <| zm rfl rfl <| zm rfl rfl <| z1 rfl (runs_lenS Tryz.underlying9 rfl) <| z1 rfl (runs_leq rfl rfl) <| zM <| zb rfl (fun hc9 => ?_) (fun hc9 => ?_)
  · have hcb9 := hc9; (try simp only [dY, dF] at hc9)
    have hk0 : k ≤ s.toList.length := by omega
    obtain ⟨hw1, hw2⟩ := hw hk0; subst hw2; refine zj <| za <| zk <| zX (Imm × Own × Value × List ByteArray × ByteArray) (fun y w => I.le y.1 ∧ St w0 w y.1 (y.2.1 ++ L) ∧ Grow 9 1 y.2.2.1 (y.2.2.2.1).length ((y.2.2.2.1).map Value.string) y.2.1 ∧ (k + 1 ≤ s.toList.length → y.2.2.2.2 = s.extract 0 (k + 1) ∧ y.2.2.2.1 = []) ∧ (∀ z ∈ y.2.2.2.1, z = s ∧ 0 < z.size) ∧ y.2.2.2.1.length ≤ 1) (fun y => [(0, .string s), (3, y.2.2.1), (4, .string y.2.2.2.2), (5, .int .i64 (k : Int))]) ?_ ?_
    · refine CW.block <| zk <| zR <| zm rfl rfl <| zm rfl rfl <| z1 rfl (runs_lenS Tryz.underlying9 rfl) <| z1 rfl (runs_lss rfl rfl) <| zm rfl rfl <| zi (t := 16) rfl (fun hb16 => ?_) (fun hb16 => ?_)
      · have hb16p := hb16; (try simp only [dY, dF] at hb16p)
        have hk1 : k < s.toList.length := by omega
        refine zo rfl rfl rfl rfl hb16 <| zm rfl rfl <| zo rfl rfl rfl rfl hb16 <| zm rfl rfl <| zo rfl rfl rfl rfl hb16 <| z1 rfl (runs_indexL Tryz.underlying9 rfl rfl (by omega) (by omega)) ?_; refine zo rfl rfl rfl rfl hb16 <| z1 rfl (runs_neI rfl rfl) <| zt rfl rfl hb16 rfl <| zM ?_
        refine zb rfl (fun hc => ?_) (fun hc => absurd hc (by
          intro h
          have h2 : ((s.toList.getD ((k : Int)).toNat 0).toNat : Int) = 32 := by simpa using h
          rw [Int.toNat_natCast] at h2; refine hnb k hk1 (UInt8.toNat.inj ?_); have e : (32 : UInt8).toNat = 32 := rfl
          omega))
        refine zR <| zm rfl rfl <| zm rfl rfl <| zm rfl rfl <| zm rfl rfl <| z1 rfl (runs_add rfl rfl (by omega)) ?_; refine z1 rfl (runs_sliceS_lh Tryz.underlying9 rfl rfl rfl (by omega)) ?_; rw [show ((k : Int)).toNat = k from Int.toNat_natCast _, show ((k : Int) + 1).toNat = k + 1 by omega]; refine z1 rfl (runs_addS rfl rfl (by rw [hw1, ByteArray.size_extract, ByteArray.size_extract]; omega)) ?_; obtain ⟨wn, hwn0⟩ : ∃ x, wv ++ s.extract k (k + 1) = x := ⟨_, rfl⟩
        have hwn : wn = s.extract 0 (k + 1) := by rw [← hwn0, hw1, ext_step]
        rw [hwn0]; refine zS rfl rfl <| zM <| CW.exit ?_; refine AQ.past_exit <| AQ.block_hit ?_; exact zv (J, Lo, vl, [], _) ⟨hle, hst, hg, fun _ => ⟨hwn, rfl⟩, hps, hpl⟩ ⟨rfl, rfl, rfl, rfl, trivial⟩
      · have hb16p := hb16; (try simp only [dY, dF] at hb16p)
        have hk2 : k = s.toList.length := by omega
        refine zH rfl rfl rfl rfl rfl rfl rfl rfl hb16 <| zf rfl rfl rfl rfl hb16 <| zn rfl rfl hb16 rfl <| zM <| CW.cond_false rfl ?_; refine zj <| za <| zk <| zR <| zm rfl rfl <| z1 rfl (runs_neS rfl rfl) <| zM <| zb rfl (fun hc30 => ?_) (fun hc30 => ?_)
        · have hcb30 := hc30; (try simp only [dY, dF] at hc30)
          have hwp : wv = s := by rw [hw1, hk2, ext_all]
          have hpos : 0 < s.size := by
            rw [← hwp]
            rcases Nat.eq_zero_or_pos wv.size with h0 | h0
            · exfalso
              have h1 : wv.toList = [] := List.eq_nil_of_length_eq_zero (by rw [size_toList]; exact h0); rw [h1, emptyL] at hcb30
              simp at hcb30
            · exact h0
          refine zg <| zm rfl rfl <| zm rfl rfl <| ze rfl (runs_lit1R (xs := [Value.string wv]) Tryz.underlying118 ti9 (by decide) rfl rfl rfl (by simp [Value.oneCell']) hst) ?_; clear hst; rintro u1 w ⟨I1, hI1, hst, h1⟩; replace hle := hle.trans hI1; have hD : RdL _ 1 u1 1 [Value.string wv] := h1; refine ze rfl (runs_appendR Tryz.underlying118 ti9 rfl (by decide) rfl rfl hst hg hD (by simp) (by simp [maxLen])) ?_; clear hst; rintro uN w ⟨LvN, hst, hgN0⟩; obtain ⟨psN, hpe⟩ : ∃ x, x = [wv] := ⟨_, rfl⟩
          have hgN : Grow 9 1 uN (psN).length ((psN).map Value.string) LvN := by rw [hpe]; exact hgN0
          have hpsN : ∀ x ∈ psN, x = s ∧ 0 < x.size := by
            rw [hpe]; intro x hx; rw [List.mem_singleton.1 hx, hwp]; exact ⟨rfl, hpos⟩
          have hplN : psN.length ≤ 1 := by rw [hpe]; simp
          refine zS rfl rfl <| zM <| zg <| zS rfl rfl <| zd <| zh ?_; exact zv (_, LvN, uN, psN, _) ⟨hle, hst, hgN, fun h => absurd h (by omega), hpsN, hplN⟩ ⟨rfl, rfl, rfl, rfl, trivial⟩
        · have hcb30 := hc30; (try simp only [dY, dF] at hc30); refine zj <| za <| zg <| zS rfl rfl <| zd <| zh ?_; exact zv (J, Lo, vl, [], _) ⟨hle, hst, hg, fun h => absurd h (by omega), hps, hpl⟩ ⟨rfl, rfl, rfl, rfl, trivial⟩
    · clear hst hle hg hps hpl hw; rintro ⟨J2, Lo2, vl2, ps2, wv2⟩ w ⟨hle, hstn, hg, hw, hps, hpl⟩; dsimp only at hle hstn hg hw hps hpl ⊢; have hst := hstn; clear hstn; refine za <| zg <| zm rfl rfl <| z1 rfl (runs_add rfl rfl (by omega)) ?_; refine zS rfl rfl <| zd ?_; exact AQ.again (x := (k, J, Lo, vl, [], wv)) (k + 1, J2, Lo2, vl2, ps2, wv2) ⟨by dsimp only; omega, hle, hst, hg, hw, hps, hpl⟩ ⟨rfl, rfl, rfl, rfl, trivial⟩ (by dsimp only; omega)
  · refine CW.exit ?_; refine AQ.past_exit <| AQ.past_exit <| AQ.block_hit <| za <| zR <| zm rfl rfl <| zS rfl rfl <| zM <| CW.ret <| z9 rfl rfl ?_; obtain ⟨J5, hJ5, hst5, hr5⟩ := hg.freeze hst; exact ⟨_, _, ps, hle.trans hJ5, rfl, hr5, hps, hpl, hst5⟩
set_option maxRecDepth 100000 in
set_option maxHeartbeats 1000000 in
theorem match_spec {w0 w : World} {I : Imm} {L : Own} (hst : St w0 w I L) (s : ByteArray) (hs : s.size ≤ 1000) (hq0 : strOf (lower s.toList) = ⟨#[39, 115, 101, 108, 102, 39]⟩ ∨ strOf (lower s.toList) = ⟨#[42]⟩) (sc ho : ByteArray) (po : Int) (pa qu : ByteArray) (hz : USz sc ho po pa qu) (sc2 ho2 : ByteArray) (po2 : Int) (pa2 qu2 : ByteArray) (hz2 : USz sc2 ho2 po2 pa2 qu2) :
    Calls Tryz.prog 125 #[.string s, .agg #[.string sc, .string ho, .int .i64 po, .string pa, .string qu], .agg #[.string sc2, .string ho2, .int .i64 po2, .string pa2, .string qu2]] w fun e w' => ∃ I' b, I.le I' ∧ e = .returned (.bool b) ∧ St w0 w' I' L := by
  refine enter Tryz.func125 rfl (N := 89) rfl rfl ?_
  simp only [zA, zB, zC, zD, zE, Nat.reduceAdd]
  have hle := Imm.le.refl I; refine zR <| ze rfl (runs_box rfl hst) ?_; clear hst; rintro _ w ⟨b1, rfl, hst⟩; refine ze rfl (runs_box rfl hst) ?_; clear hst; rintro _ w ⟨b2, rfl, hst⟩; refine zS rfl rfl <| zM <| zk <| zR <| zm rfl rfl <| zK rfl call91 rfl rfl (refLower_spec hst s (by omega)) ?_; clear hst; rintro e w ⟨I1, hI1, rfl, hst⟩; obtain ⟨q, hq⟩ : ∃ q, strOf (lower s.toList) = q := ⟨_, rfl⟩; rw [hq] at hq0 ⊢; replace hle := hle.trans hI1; refine ⟨_, rfl, ?_⟩; refine zM <| CW.block <| zR <| z1 rfl (runs_eqS rfl rfl) <| zS rfl rfl <| zM <| zb rfl (fun hc16 => ?_) (fun hc16 => ?_)
  · refine zR <| z1 rfl (runs_loadN (vs := [_, _, _, _, _]) ag111 ti111 rfl hst (k := 1) rfl rfl rfl) ?_; refine z1 rfl (runs_loadN (vs := [_, _, _, _, _]) ag111 ti111 rfl hst (k := 0) rfl rfl rfl) ?_; refine zK rfl call141 rfl rfl (sameorigin_spec hst sc ho po pa qu hz sc2 ho2 po2 pa2 qu2 hz2) ?_; clear hst; rintro e w ⟨so, rfl, hst⟩; refine ⟨_, rfl, ?_⟩; refine zS rfl rfl <| zM <| CW.ret <| AQ.block_ret <| zr <| z9 rfl rfl ?_; exact ⟨_, _, hle, rfl, hst.drop1.drop1⟩
  · have hcb16 := hc16; (try simp only [dY, dF] at hc16); refine zR <| z1 rfl (runs_eqS rfl rfl) <| zS rfl rfl <| zM ?_
    refine zb rfl (fun hc => ?_) (fun hc => absurd hc (by
      intro h
      rcases hq0 with h0 | h0
      · rw [h0] at hcb16
        simp at hcb16
      · rw [h0] at h
        simp at h))
    refine zR <| zS rfl rfl <| zM <| CW.ret <| AQ.block_ret <| zr <| z9 rfl rfl ?_; exact ⟨_, _, hle, rfl, hst.drop1.drop1⟩
set_option maxRecDepth 100000 in
set_option maxHeartbeats 1000000 in
theorem allows_spec {w0 w : World} {I : Imm} {L : Own} (hst : St w0 w I L) (s : ByteArray) (hs : CspOk s) (sc ho : ByteArray) (po : Int) (pa qu : ByteArray) (hz : USz sc ho po pa qu) (sc2 ho2 : ByteArray) (po2 : Int) (pa2 qu2 : ByteArray) (hz2 : USz sc2 ho2 po2 pa2 qu2) :
    Calls Tryz.prog 101 #[.string s, .agg #[.string sc, .string ho, .int .i64 po, .string pa, .string qu], .agg #[.string sc2, .string ho2, .int .i64 po2, .string pa2, .string qu2]] w fun e w' => ∃ I' b, I.le I' ∧ e = .returned (.bool b) ∧ St w0 w' I' L := by
  refine enter Tryz.func101 rfl (N := 26) rfl rfl ?_
  simp only [zA, zB, zC, zD, zE, Nat.reduceAdd]
  have hle := Imm.le.refl I; refine zR <| ze rfl (runs_box rfl hst) ?_; clear hst; rintro _ w ⟨b1, rfl, hst⟩; refine ze rfl (runs_box rfl hst) ?_; clear hst; rintro _ w ⟨b2, rfl, hst⟩; refine zS rfl rfl <| zN <| zm rfl rfl <| zK rfl call124 rfl rfl (words_spec hst s (by have := hs.sz; omega) hs.nb) ?_; clear hst; rintro e w ⟨J11, v11, ws, hJ11, rfl, hws, hw1, hw2, hst⟩; replace hle := hle.trans hJ11; refine ⟨_, rfl, ?_⟩; refine zS rfl rfl <| zM <| zk <| zR <| zm rfl rfl <| z1 rfl (RdL.len Tryz.underlying118 rfl hws) <| zm rfl rfl <| zM <| CW.block <| CW.loop (Nat × Imm) (fun x w => I.le x.2 ∧ RdS x.2 v11 ws ∧ St w0 w x.2 ((b2, .cells #[.string sc2, .string ho2, .int .i64 po2, .string pa2, .string qu2] 111) :: (b1, .cells #[.string sc, .string ho, .int .i64 po, .string pa, .string qu] 111) :: L) ∧ x.1 ≤ ws.length) (fun x => [(4, .pointer (some ⟨b1, 0, none⟩)), (5, .pointer (some ⟨b2, 0, none⟩)), (7, v11), (12, v11), (13, .int .i64 (ws.length : Int)), (14, .int .i64 (x.1 : Int))]) (fun x => ws.length - x.1) ⟨(0, _), ⟨hle, hws, hst, Nat.zero_le _⟩, ⟨rfl, rfl, rfl, rfl, rfl, rfl, trivial⟩⟩ ?_; clear hst hle hws; rintro ⟨k, I5⟩ w ⟨hle, hws5, hstn, hk⟩; dsimp only at hle hws5 hstn hk ⊢; have hst := hstn; clear hstn; refine zR <| z1 rfl (runs_lss rfl rfl) <| zM <| zk <| zb rfl (fun hc15 => ?_) (fun hc15 => ?_)
  · have hcb15 := hc15; (try simp only [dY, dF] at hc15)
    have hk1 : k < ws.length := by omega
    obtain ⟨x, hx⟩ : ∃ r, ws[k] = r := ⟨_, rfl⟩; have hxs := hw1 x (by rw [← hx]; exact List.getElem_mem _); obtain ⟨hxe, hxp⟩ := hxs; subst hxe; refine zj <| za <| zk <| CW.block <| zR <| z1 rfl (RdL.indexAddr Tryz.underlying118 ti9 (by decide) rfl rfl hws5 (by omega)) ?_; refine z1 rfl (runs_load1 sc9 rfl (hst.cell_imm (RdS.at hws5 (by omega) (by omega)))) ?_; rw [show sat ws (k : Int) = x by rw [sat_get hk1, hx]]; refine zS rfl rfl <| zN <| zm rfl rfl <| z1 rfl (runs_loadN (vs := [_, _, _, _, _]) ag111 ti111 rfl hst (k := 1) rfl rfl rfl) ?_; refine z1 rfl (runs_loadN (vs := [_, _, _, _, _]) ag111 ti111 rfl hst (k := 0) rfl rfl rfl) ?_; refine zK rfl call125 rfl rfl (match_spec hst x (by have := hs.sz; omega) (hs.low hxp) sc ho po pa qu hz sc2 ho2 po2 pa2 qu2 hz2) ?_; clear hst; rintro e w ⟨J21, mb, hJ21, rfl, hst⟩; replace hws5 := hws5.mono hJ21; replace hle := hle.trans hJ21; refine ⟨_, rfl, ?_⟩; refine zM <| zb rfl (fun hc21 => ?_) (fun hc21 => ?_)
    · refine zR <| zS rfl rfl <| zM <| CW.ret <| AQ.block_ret <| zr <| zr <| AQ.block_ret <| zr <| z9 rfl rfl ?_; exact ⟨_, _, hle, rfl, hst.drop1.drop1⟩
    · have hcb21 := hc21; (try simp only [dY, dF] at hc21); refine zj <| zh <| za <| zg <| z1 rfl (runs_add rfl rfl (by omega)) ?_; refine zm rfl rfl <| zd ?_; exact AQ.again (x := (k, I5)) (k + 1, _) ⟨hle, hws5, hst, by omega⟩ ⟨rfl, rfl, rfl, rfl, rfl, rfl, trivial⟩ (by dsimp only; omega)
  · refine CW.exit ?_; refine AQ.past_exit <| AQ.past_exit <| AQ.block_hit <| za <| zR <| zm rfl rfl <| z1 rfl (RdL.len Tryz.underlying118 rfl hws5) <| z1 rfl (runs_eqI rfl rfl) <| zS rfl rfl <| zM ?_; refine CW.ret ?_; refine z9 rfl rfl ?_; exact ⟨_, _, hle, rfl, hst.drop1.drop1⟩
set_option maxRecDepth 100000 in
set_option maxHeartbeats 1000000 in
theorem permits_spec {w0 w : World} {I : Imm} {L : Own} (hst : St w0 w I L) (pg c : ByteArray) (hpg : pg.size ≤ 10000) (hc : CspOk c) (rf : Int) (sc2 ho2 : ByteArray) (po2 : Int) (pa2 qu2 : ByteArray) (hz2 : USz sc2 ho2 po2 pa2 qu2) :
    Calls Tryz.prog 62 #[.agg #[.string pg, .string c, .int .i64 rf], .agg #[.string sc2, .string ho2, .int .i64 po2, .string pa2, .string qu2]] w fun e w' => ∃ I' b, I.le I' ∧ e = .returned (.bool b) ∧ St w0 w' I' L := by
  refine enter Tryz.func62 rfl (N := 27) rfl rfl ?_
  simp only [zA, zB, zC, zD, zE, Nat.reduceAdd]
  have hle := Imm.le.refl I; refine zR <| ze rfl (runs_box rfl hst) ?_; clear hst; rintro _ w ⟨b1, rfl, hst⟩; refine ze rfl (runs_box rfl hst) ?_; clear hst; rintro _ w ⟨b2, rfl, hst⟩; refine zS rfl rfl <| zN <| zp rfl rfl U38 rfl ti9 rfl <| zl 1 rfl sc9 rfl hst rfl rfl <| zK rfl call60 rfl rfl (parse_spec hst pg hpg) ?_; clear hst; rintro e w ⟨J10, sc, ho, po, pa, qu, ok, hJ10, rfl, hst, hz, hpz⟩; replace hle := hle.trans hJ10; refine ⟨_, rfl, ?_⟩; refine zm rfl rfl <| zx rfl rfl rfl <| zx rfl rfl rfl <| ze rfl (runs_alloc ti111 hst) ?_; clear hst; rintro _ w ⟨b4, rfl, hst⟩; refine zw 0 ti111 rfl rfl hst rfl rfl rfl rfl ?_; clear hst; rintro w hst; (try simp only [sZ, sS] at hst); refine zS rfl rfl <| zN <| zp rfl rfl U38 rfl ti9 rfl <| zl 2 rfl sc9 rfl hst rfl rfl <| z1 rfl (runs_loadN (vs := [_, _, _, _, _]) ag111 ti111 rfl hst (k := 0) rfl rfl rfl) ?_; refine z1 rfl (runs_loadN (vs := [_, _, _, _, _]) ag111 ti111 rfl hst (k := 1) rfl rfl rfl) ?_; refine zK rfl call101 rfl rfl (allows_spec hst c hc sc ho po pa qu hz sc2 ho2 po2 pa2 qu2 hz2) ?_; clear hst; rintro e w ⟨J17, ab, hJ17, rfl, hst⟩; replace hle := hle.trans hJ17; refine ⟨_, rfl, ?_⟩; refine zm rfl rfl <| zi (t := 18) rfl (fun hb18 => ?_) (fun hb18 => ?_)
  · have hb18p := hb18; (try simp only [dY, dF] at hb18p); refine zo rfl rfl rfl rfl hb18 <| z1 rfl (runs_loadN (vs := [_, _, _, _, _]) ag111 ti111 rfl hst (k := 0) rfl rfl rfl) ?_; refine zo rfl rfl rfl rfl hb18 <| zK rfl call102 rfl rfl (secure_spec hst sc ho po pa qu) ?_; clear hst; rintro e w ⟨s1, rfl, hst⟩; refine ⟨_, rfl, ?_⟩; refine zo rfl rfl rfl rfl hb18 <| z1 rfl (runs_not rfl) <| zo rfl rfl rfl rfl hb18 <| zm rfl rfl <| zi (t := 22) rfl (fun hb22 => ?_) (fun hb22 => ?_)
    · refine zG rfl rfl rfl rfl rfl rfl hb22 <| zo rfl rfl rfl rfl hb18 <| zt rfl rfl hb22 rfl <| zt rfl rfl hb18 rfl <| zS rfl rfl <| zM <| CW.ret <| z9 rfl rfl ?_; exact ⟨_, _, hle, rfl, hst.drop1.drop1.drop1⟩
    · refine zo rfl rfl rfl rfl hb22 <| z1 rfl (runs_loadN (vs := [_, _, _, _, _]) ag111 ti111 rfl hst (k := 1) rfl rfl rfl) ?_; refine zo rfl rfl rfl rfl hb22 <| zK rfl call102 rfl rfl (secure_spec hst sc2 ho2 po2 pa2 qu2) ?_; clear hst; rintro e w ⟨s2, rfl, hst⟩; refine ⟨_, rfl, ?_⟩; refine zo rfl rfl rfl rfl hb18 <| zn rfl rfl hb22 rfl <| zt rfl rfl hb18 rfl <| zS rfl rfl <| zM <| CW.ret <| z9 rfl rfl ?_; exact ⟨_, _, hle, rfl, hst.drop1.drop1.drop1⟩
  · refine zH rfl rfl rfl rfl rfl rfl rfl rfl hb18 <| zf rfl rfl rfl rfl hb18 <| zu rfl rfl rfl rfl ?_; refine zu rfl rfl rfl rfl ?_; refine zf rfl rfl rfl rfl hb18 <| zn rfl rfl hb18 rfl <| zS rfl rfl <| zM <| CW.ret <| z9 rfl rfl ?_; exact ⟨_, _, hle, rfl, hst.drop1.drop1.drop1⟩
end Go.Proofs.YtadgbifmiooikaaGreatX
