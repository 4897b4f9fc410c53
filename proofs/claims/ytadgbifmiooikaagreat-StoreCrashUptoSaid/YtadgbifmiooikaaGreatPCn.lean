/- Parts of a proof, joined: walks through the program's functions and their laws, in the order in which they need each other. -/
import Derived.Test.YtadgbifmiooikaaGreatPCb
import Derived.Test.YtadgbifmiooikaaGreatPCf
import Derived.Test.YtadgbifmiooikaaGreatPCm
namespace Go.Proofs.YtadgbifmiooikaaGreatX
set_option linter.unusedVariables false
set_option linter.unusedSimpArgs false
open Go Go.RowKit Go.Proofs
set_option maxRecDepth 100000 in
set_option maxHeartbeats 1000000 in
theorem refLower_spec {w0 w : World} {I : Imm} {L : Own} (hst : St w0 w I L) (s : ByteArray) (hs : s.size ≤ 9223372036854775807) :
    Calls Tryz.prog 91 #[.string s] w fun e w' => ∃ I' , Imm.le I I' ∧ e = .returned (.string (strOf (lower s.toList))) ∧ St w0 w' I' L := by
  have hsl := size_toList s; refine enter Tryz.func91 rfl (N := 29) rfl rfl ?_
  simp only [zA, zB, zC, zD, zE, Nat.reduceAdd]
  have hle := Imm.le.refl I; refine zR <| zS rfl rfl <| zN <| zm rfl rfl <| ze rfl (runs_bytesOf Tryz.underlying9 Tryz.underlying52 Tryz.underlying5 rfl hst) ?_; clear hst; rintro _ w ⟨b7, cap7, pad7, rfl, hcap7, hst⟩; refine zS rfl rfl <| zM <| zk <| zR <| zm rfl rfl <| z1 rfl (runs_lenL Tryz.underlying52 rfl) <| zm rfl rfl <| zM <| CW.block <| CW.loop Nat (fun k w => St w0 w I ((b7, rowB (lowTo s.toList k) pad7 5) :: L) ∧ k ≤ s.toList.length) (fun k => [(3, .slice (some ⟨b7, 0, none⟩) s.toList.length cap7), (8, .slice (some ⟨b7, 0, none⟩) s.toList.length cap7), (9, .int .i64 (s.toList.length : Int)), (10, .int .i64 (k : Int))]) (fun k => s.toList.length - k) ⟨0, ⟨by rw [lowTo_zero]; exact hst, Nat.zero_le _⟩, ⟨rfl, rfl, rfl, rfl, trivial⟩⟩ ?_; clear hst; rintro k w ⟨hst, hk⟩; refine zR <| z1 rfl (runs_lss rfl rfl) <| zM <| zk <| zb rfl (fun hc11 => ?_) (fun hc11 => ?_)
  · have hcb11 := hc11; (try simp only [dY, dF] at hc11)
    have hk1 : k < s.toList.length := by omega
    have hget := rowB_get (bs := lowTo s.toList k) (pad := pad7) (k := k) (by rw [lowTo_length]; exact hk1); rw [lowTo_get hk1] at hget; obtain ⟨c, hc⟩ : ∃ c, s.toList[k] = c := ⟨_, rfl⟩; rw [hc] at hget; have hcl := c.toNat_lt; refine zj <| za <| zk <| CW.block <| zR <| zm rfl rfl <| z1 rfl (runs_indexAddr0 Tryz.underlying52 ti5 rfl rfl (by omega)) ?_; refine z1 rfl (runs_load1 sc5 rfl (hst.cell_own (k := 0) rfl (by rw [Nat.zero_add, Int.toNat_natCast, Nat.mul_one]; exact hget))) ?_; refine zS rfl rfl <| zS rfl rfl <| zN <| zm rfl rfl <| z1 rfl (runs_geq rfl rfl) <| zm rfl rfl <| zi (t := 17) rfl (fun hb17 => ?_) (fun hb17 => ?_)
    · have hb17p := hb17; (try simp only [dY, dF] at hb17p); refine zo rfl rfl rfl rfl hb17 <| zm rfl rfl <| zo rfl rfl rfl rfl hb17 <| z1 rfl (runs_leq rfl rfl) <| zt rfl rfl hb17 rfl <| zM <| zb rfl (fun hc20 => ?_) (fun hc20 => ?_)
      · have hcb20 := hc20; (try simp only [dY, dF] at hc20); refine zg <| zm rfl rfl <| zm rfl rfl <| zm rfl rfl <| z1 rfl (runs_addW rfl rfl) <| z1 rfl (runs_indexAddr0 Tryz.underlying52 ti5 rfl rfl (by omega)) ?_; refine z0 (runs_store1' ti5 rfl rfl hst (k := 0) rfl (by simp [lowTo_length]; omega) (NoFz.behind _) rfl) ?_; clear hst; rintro w hst; (try simp only [sZ, sS] at hst); refine zd <| zh <| za <| zg <| z1 rfl (runs_add rfl rfl (by omega)) ?_; refine zm rfl rfl <| zd ?_
        have hlc : lowB c = u8 ((c.toNat : Int) + 32) := by unfold lowB; rw [if_pos (by omega)]
        have hv : Value.int .u8 (IntKind.u8.wrap ((c.toNat : Int) + 32)) = b8 (lowB c) := by
          rw [hlc]; unfold b8; rw [u8_toNat, IntKind.wrap_u8]
        have hset := rowB_set (bs := lowTo s.toList k) (pad := pad7) (lowB c) (k := k) (by rw [lowTo_length]; exact hk1); rw [lowTo_set hk1 (lowB c) (by rw [hc])] at hset
        simp only [Nat.zero_add, Int.toNat_natCast, Nat.mul_one] at hst
        rw [hv, hset, show ((lowTo s.toList k).map b8 ++ pad7).length = ((lowTo s.toList (k + 1)).map b8 ++ pad7).length by simp [lowTo_length]] at hst; exact AQ.again (k + 1) ⟨hst, by omega⟩ ⟨rfl, rfl, rfl, rfl, trivial⟩ (by omega)
      · have hcb20 := hc20; (try simp only [dY, dF] at hc20); refine zj <| zh <| za <| zg <| z1 rfl (runs_add rfl rfl (by omega)) ?_; refine zm rfl rfl <| zd ?_
        have hlc : lowB s.toList[k] = s.toList[k] := by rw [hc]; unfold lowB; rw [if_neg (by omega)]
        exact AQ.again (k + 1) ⟨by rw [← lowTo_same hk1 hlc]; exact hst, by omega⟩ ⟨rfl, rfl, rfl, rfl, trivial⟩ (by omega)
    · have hb17p := hb17; (try simp only [dY, dF] at hb17p); refine zG rfl rfl rfl rfl rfl rfl hb17 <| zn rfl rfl hb17 rfl <| zM <| CW.cond_false rfl ?_; refine zj <| zh <| za <| zg <| z1 rfl (runs_add rfl rfl (by omega)) ?_; refine zm rfl rfl <| zd ?_
      have hlc : lowB s.toList[k] = s.toList[k] := by rw [hc]; unfold lowB; rw [if_neg (by omega)]
      exact AQ.again (k + 1) ⟨by rw [← lowTo_same hk1 hlc]; exact hst, by omega⟩ ⟨rfl, rfl, rfl, rfl, trivial⟩ (by omega)
  · have hcb11 := hc11; (try simp only [dY, dF] at hc11); refine CW.exit ?_; refine AQ.past_exit <| AQ.past_exit <| AQ.block_hit <| za <| zR ?_
    have hke : k = s.toList.length := by omega
    subst hke; rw [lowTo_end] at hst; obtain ⟨I8, hI8, hstn, hr⟩ := rowB_freeze (cap := cap7) hst (by simp [lower]; omega); clear hst; have hst := hstn; clear hstn; rw [show s.toList.length = (lower s.toList).length by simp [lower]]; refine zm rfl rfl <| z1 rfl (RdB.string Tryz.underlying52 Tryz.underlying5 Tryz.underlying9 rfl hr hst) ?_; refine zS rfl rfl <| zM <| CW.ret <| z9 rfl rfl ?_; exact ⟨I8, hI8, rfl, hst⟩
def preS (s p : ByteArray) : Bool := decide ((p.size : Int) ≤ s.size) && ((s.extract 0 p.size).toList == p.toList)
set_option maxRecDepth 100000 in
set_option maxHeartbeats 1000000 in
theorem until_spec {w0 w : World} {I : Imm} {L : Own} (hst : St w0 w I L) (s p : ByteArray) (hs : s.size ≤ 9223372036854775807) (hp : p.size ≤ 1000000) :
    Calls Tryz.prog 92 #[.string s, .string p] w fun e w' => e = .returned (.tuple #[.string (strOf (untilL p.toList s.toList).1), .string (strOf (untilL p.toList s.toList).2)]) ∧ St w0 w' I L := by
  have hsz := size_toList s; have hpz := size_toList p; refine enter Tryz.func92 rfl (N := 34) rfl rfl ?_
  simp only [zA, zB, zC, zD, zE, Nat.reduceAdd]
  have hle := Imm.le.refl I; refine zR <| zS rfl rfl <| zS rfl rfl <| zM <| zk <| zR <| zS rfl rfl <| zM <| CW.block <| CW.loop Nat (fun k w => St w0 w I L ∧ k ≤ s.toList.length ∧ ∀ x ∈ s.toList.take k, p.toList.contains x = false) (fun k => [(0, .string s), (1, .string p), (6, .int .i64 (k : Int))]) (fun k => s.toList.length - k) ⟨0, ⟨hst, Nat.zero_le _, by simp⟩, ⟨rfl, rfl, rfl, trivial⟩⟩ ?_; clear hst; rintro k w ⟨hst, hk, hall⟩; refine zk <| zR <| zm rfl rfl <| zm rfl rfl <| z1 rfl (runs_lenS Tryz.underlying9 rfl) <| z1 rfl (runs_lss rfl rfl) <| zM <| zb rfl (fun hc11 => ?_) (fun hc11 => ?_)
  · have hcb11 := hc11; (try simp only [dY, dF] at hc11)
    have hk1 : k < s.toList.length := by omega
    have hgd := get_getD hk1; obtain ⟨c, hc⟩ : ∃ c, s.toList[k] = c := ⟨_, rfl⟩; rw [hc] at hgd; refine zj <| za <| zk <| CW.block <| zR <| zS rfl rfl <| zM <| CW.block <| CW.loop Nat (fun j w => St w0 w I L ∧ j ≤ p.toList.length ∧ (p.toList.take j).contains c = false) (fun j => [(0, .string s), (1, .string p), (6, .int .i64 (k : Int)), (7, .int .i64 (j : Int))]) (fun j => p.toList.length - j) ⟨0, ⟨hst, Nat.zero_le _, by simp⟩, ⟨rfl, rfl, rfl, rfl, trivial⟩⟩ ?_; clear hst; rintro j w ⟨hst, hj, hno⟩; refine zk <| zR <| zm rfl rfl <| zm rfl rfl <| z1 rfl (runs_lenS Tryz.underlying9 rfl) <| z1 rfl (runs_lss rfl rfl) <| zM <| zb rfl (fun hc17 => ?_) (fun hc17 => ?_)
    · have hcb17 := hc17; (try simp only [dY, dF] at hc17)
      have hj1 : j < p.toList.length := by omega
      have hgj := get_getD hj1; obtain ⟨d, hd⟩ : ∃ d, p.toList[j] = d := ⟨_, rfl⟩; rw [hd] at hgj; refine zj <| za <| zk <| CW.block <| zk ?_; refine CW.drawSt hst (.q 0 (.q 1 (.q 2 (.q 3 (.q 4 (.q 5 (.q 6 .nil))))))) follows (by kernel_rfl) (fun w hst => ?_); refine ym rfl rfl rfl <| ym rfl rfl rfl <| DRW.q rfl rfl (fun w' hF => runs_indexL Tryz.underlying9 rfl rfl (by omega) (by omega)) ?_; rw [show ((k : Int)).toNat = k from rfl, hgd]; refine ym rfl rfl rfl <| ym rfl rfl rfl <| DRW.q rfl rfl (fun w' hF => runs_indexL Tryz.underlying9 rfl rfl (by omega) (by omega)) ?_; rw [show ((j : Int)).toNat = j from rfl, hgj]; refine DRW.q rfl rfl (fun w' hF => runs_eqI rfl rfl) ?_; refine DRW.done <| za <| zb rfl (fun hc26 => ?_) (fun hc26 => ?_)
      · have hcb26 := hc26; (try simp only [dY, dF] at hc26)
        have hcd : c = d := by
          apply UInt8.toNat.inj
          omega
        have hin : p.toList.contains c = true := by
          rw [List.contains_iff_mem, hcd, ← hd]; exact List.getElem_mem hj1
        have hun := untilL_get hk1 hall (by rw [hc]; exact hin); refine zk ?_; refine CW.drawSt hst (.q 0 (.q 1 (.q 2 (.q 3 (.q 4 (.q 5 (.q 6 (.q 7 .nil)))))))) follows (by kernel_rfl) (fun w hst => ?_); refine ym rfl rfl rfl <| ym rfl rfl rfl <| DRW.q rfl rfl (fun w' hF => runs_sliceS_h Tryz.underlying9 rfl rfl (by omega)) ?_; refine ym rfl rfl rfl <| ym rfl rfl rfl <| DRW.q rfl rfl (fun w' hF => runs_sliceS_l Tryz.underlying9 rfl rfl (by omega)) ?_; refine yS rfl rfl rfl <| yS rfl rfl rfl <| DRW.done <| za <| CW.ret <| AQ.block_ret <| zr <| zr <| AQ.block_ret <| AQ.block_ret ?_; refine zr <| zr <| AQ.block_ret <| zr ?_; refine AQ.ret2 rfl rfl rfl ?_; refine ⟨?_, hst⟩; rw [hun, extractE, extractE, show ((k : Int)).toNat = k from rfl, List.drop_zero, Nat.sub_zero, List.take_of_length_le (l := List.drop k s.toList) (by rw [List.length_drop]; omega)]
      · have hcb26 := hc26; (try simp only [dY, dF] at hc26)
        have hcd : c ≠ d := fun e => hc26 (by rw [e])
        refine zj <| zh <| za <| zg <| zm rfl rfl <| z1 rfl (runs_add rfl rfl (by omega)) ?_; refine zS rfl rfl <| zd ?_
        exact AQ.again (x := j) (j + 1) ⟨hst, by omega, by
          rw [List.take_add_one, List.getElem?_eq_getElem hj1, hd]; rw [List.contains_eq_mem] at hno ⊢
          simp only [Option.toList_some, List.mem_append, List.mem_singleton, decide_eq_false_iff_not] at hno ⊢
          rintro (h | h)
          · exact hno h
          · exact hcd h⟩ ⟨rfl, rfl, rfl, rfl, trivial⟩ (by omega)
    · have hcb17 := hc17; (try simp only [dY, dF] at hc17); refine CW.exit ?_; refine AQ.past_exit <| AQ.past_exit <| AQ.block_hit <| zh <| za <| zg <| zm rfl rfl <| z1 rfl (runs_add rfl rfl (by omega)) ?_; refine zS rfl rfl <| zd ?_; exact AQ.again (x := k) (k + 1) ⟨hst, by omega, takeE_more hall hk1 (by rw [hc]; rw [List.take_of_length_le (by omega)] at hno; exact hno)⟩ ⟨rfl, rfl, rfl, trivial⟩ (by omega)
  · have hcb11 := hc11; (try simp only [dY, dF] at hc11); refine CW.exit ?_; refine AQ.past_exit <| AQ.past_exit <| AQ.block_hit <| za <| zR <| zm rfl rfl <| zS rfl rfl <| zS rfl rfl <| zM <| CW.ret ?_; refine AQ.ret2 rfl rfl rfl ?_; rw [List.take_of_length_le (by omega)] at hall; rw [untilL_no hall, strOfE]; exact ⟨rfl, hst⟩
set_option maxRecDepth 100000 in
set_option maxHeartbeats 1000000 in
theorem begins_spec {w0 w : World} {I : Imm} {L : Own} (hst : St w0 w I L) (s p : ByteArray) :
    Calls Tryz.prog 90 #[.string s, .string p] w fun e w' => e = .returned (.bool (preS s p)) ∧ St w0 w' I L := by
  refine enter Tryz.func90 rfl (N := 18) rfl rfl ?_
  simp only [zA, zB, zC, zD, zE, Nat.reduceAdd]
  have hle := Imm.le.refl I; refine zR <| zS rfl rfl <| zN <| zm rfl rfl <| z1 rfl (runs_lenS Tryz.underlying9 rfl) <| zm rfl rfl <| z1 rfl (runs_lenS Tryz.underlying9 rfl) <| z1 rfl (runs_geq rfl rfl) <| zm rfl rfl <| zi (t := 10) rfl (fun hb10 => ?_) (fun hb10 => ?_)
  · have hb10p := hb10; (try simp only [dY, dF] at hb10p); refine zo rfl rfl rfl rfl hb10 <| zm rfl rfl <| zo rfl rfl rfl rfl hb10 <| zm rfl rfl <| zo rfl rfl rfl rfl hb10 <| z1 rfl (runs_lenS Tryz.underlying9 rfl) <| zo rfl rfl rfl rfl hb10 <| z1 rfl (runs_sliceS_h Tryz.underlying9 rfl rfl (by omega)) ?_; refine zo rfl rfl rfl rfl hb10 <| zm rfl rfl <| zo rfl rfl rfl rfl hb10 <| z1 rfl (runs_eqS rfl rfl) <| zt rfl rfl hb10 rfl <| zS rfl rfl <| zM <| CW.ret <| z9 rfl rfl ?_; refine ⟨?_, hst⟩; unfold preS
    simp only [hb10p, decide_true, Bool.true_and, Int.toNat_natCast]
  · have hb10p := hb10; (try simp only [dY, dF] at hb10p); refine zH rfl rfl rfl rfl rfl rfl rfl rfl hb10 <| zH rfl rfl rfl rfl rfl rfl rfl rfl hb10 <| zn rfl rfl hb10 rfl <| zS rfl rfl <| zM <| CW.ret <| z9 rfl rfl ?_; refine ⟨?_, hst⟩; unfold preS
    simp only [hb10p, decide_false, Bool.false_and]
theorem goL_1 {l : List UInt8} (h : ¬ ((l.length : Nat) : Int) > 0) : false = goL l := by
  unfold goL; rw [decide_eq_false (show ¬ 0 < l.length by omega), Bool.false_and]
theorem goR_1 {l : List UInt8} (h : ¬ ((l.length : Nat) : Int) > 0) : false = goR l := by
  unfold goR; rw [decide_eq_false (show ¬ 0 < l.length by omega), Bool.false_and]
theorem goL_2 {l : List UInt8} (h : ((l.length : Nat) : Int) > 0) : decide (((l.getD ((0 : Int)).toNat 0).toNat : Int) ≤ 32) = goL l := by
  unfold goL; rw [decide_eq_true (show 0 < l.length by omega), Bool.true_and]; exact decide_eq_decide.2 ⟨fun h => Int.ofNat_le.1 h, fun h => Int.ofNat_le.2 h⟩
theorem goR_2 {l : List UInt8} {n : Nat} (hn : l.length = n) (h : ((l.length : Nat) : Int) > 0) : decide (((l.getD (((n : Nat) : Int) - 1).toNat 0).toNat : Int) ≤ 32) = goR l := by
  subst hn; unfold goR; rw [decide_eq_true (show 0 < l.length by omega), Bool.true_and, show (((l.length : Nat) : Int) - 1).toNat = l.length - 1 by omega]; exact decide_eq_decide.2 ⟨fun h => Int.ofNat_le.1 h, fun h => Int.ofNat_le.2 h⟩
theorem goL_pos {l : List UInt8} (h : goL l = true) : 0 < l.length := by unfold goL at h; simp at h; omega
theorem goR_pos {l : List UInt8} (h : goR l = true) : 0 < l.length := by unfold goR at h; simp at h; omega
set_option maxRecDepth 100000 in
set_option maxHeartbeats 1000000 in
theorem rtrim_spec {w0 w : World} {I : Imm} {L : Own} (hst : St w0 w I L) (s : ByteArray) (hs : s.size ≤ 9223372036854775807) :
    Calls Tryz.prog 89 #[.string s] w fun e w' => e = .returned (.string (strOf (trimB s.toList))) ∧ St w0 w' I L := by
  refine enter Tryz.func89 rfl (N := 30) rfl rfl ?_
  simp only [zA, zB, zC, zD, zE, Nat.reduceAdd]
  have hle := Imm.le.refl I; refine zR <| zS rfl rfl <| zM <| zk <| CW.block <| CW.loop ByteArray (fun t w => St w0 w I L ∧ trimL t.toList = trimL s.toList ∧ t.size ≤ s.size) (fun t => [(0, .string t)]) (fun t => t.size) ⟨s, ⟨hst, rfl, Nat.le_refl _⟩, ⟨rfl, trivial⟩⟩ ?_; clear hst; rintro t w ⟨hst, htl, hts⟩; have htz := size_toList t; refine zk <| zk <| zX Unit (fun _ w => St w0 w I L) (fun _ => [(0, .string t), (10, .bool (goL t.toList))]) ?_ ?_
  ·
    refine zg <| zm rfl rfl <| z1 rfl (runs_lenS Tryz.underlying9 rfl) <| z1 rfl (runs_gtr rfl rfl) <| zm rfl rfl <| zi (t := 6) rfl (fun hb6 => ?_) (fun hb6 => ?_)
    · have hb6p := hb6; (try simp only [dY, dF] at hb6p); refine zo rfl rfl rfl rfl hb6 <| zm rfl rfl <| zo rfl rfl rfl rfl hb6 <| z1 rfl (runs_indexL Tryz.underlying9 rfl rfl (by omega) (by omega)) ?_; refine zo rfl rfl rfl rfl hb6 <| z1 rfl (runs_leq rfl rfl) <| zt rfl rfl hb6 rfl <| zd ?_; exact zv () hst ⟨rfl, congrArg (fun z => some (Value.bool z)) (goL_2 (by omega)), trivial⟩
    · have hb6p := hb6; (try simp only [dY, dF] at hb6p); refine zH rfl rfl rfl rfl rfl rfl rfl rfl hb6 <| zn rfl rfl hb6 rfl <| zd ?_; exact zv () hst ⟨rfl, congrArg (fun z => some (Value.bool z)) (goL_1 (by omega)), trivial⟩
  · clear hst; rintro _ w hst; refine za <| zb rfl (fun hc10 => ?_) (fun hc10 => ?_)
    · have hcb10 := hc10; (try simp only [dY, dF] at hc10); have hpos := goL_pos hcb10; rw [htz] at hpos; refine zj <| za <| CW.block <| zg <| zm rfl rfl <| z1 rfl (runs_sliceS_l Tryz.underlying9 rfl rfl (by omega)) ?_; refine zS rfl rfl <| zd <| zh ?_
      have he : (t.extract ((1 : Int)).toNat t.size).toList = t.toList.drop 1 := by
        rw [extract_list]; exact List.take_of_length_le (by rw [List.length_drop, htz]; exact Nat.le_refl _)
      have hz := size_toList (t.extract ((1 : Int)).toNat t.size); rw [he, List.length_drop] at hz; exact AQ.again (x := t) _ ⟨hst, by rw [he, trimL_go hcb10, htl], by omega⟩ ⟨rfl, trivial⟩ (by omega)
    · have hcb10 := hc10; (try simp only [dY, dF] at hc10); refine CW.exit ?_; refine AQ.past_exit <| AQ.past_exit <| AQ.block_hit <| za <| zk <| CW.block ?_; have hb2 := trimB_of hcb10 htl (by rw [htz, size_toList]; exact hts); have hts0 := hts; refine CW.loop ByteArray (fun u w => St w0 w I L ∧ trimR u.toList.length u.toList = trimB s.toList ∧ u.size ≤ s.size) (fun u => [(0, .string u)]) (fun u => u.size) ⟨t, ⟨hst, hb2, hts⟩, ⟨rfl, trivial⟩⟩ ?_; clear hb2 hts; clear hst; rintro u w ⟨hst, hul, hus⟩; have huz := size_toList u; refine zk <| zk <| zX Unit (fun _ w => St w0 w I L) (fun _ => [(0, .string u), (23, .bool (goR u.toList))]) ?_ ?_
      ·
        refine zg <| zm rfl rfl <| z1 rfl (runs_lenS Tryz.underlying9 rfl) <| z1 rfl (runs_gtr rfl rfl) <| zm rfl rfl <| zi (t := 16) rfl (fun hb16 => ?_) (fun hb16 => ?_)
        · have hb16p := hb16; (try simp only [dY, dF] at hb16p); refine zo rfl rfl rfl rfl hb16 <| zm rfl rfl <| zo rfl rfl rfl rfl hb16 <| zm rfl rfl <| zo rfl rfl rfl rfl hb16 <| z1 rfl (runs_lenS Tryz.underlying9 rfl) <| zo rfl rfl rfl rfl hb16 <| z1 rfl (runs_sub rfl rfl (by omega)) ?_; refine zo rfl rfl rfl rfl hb16 <| z1 rfl (runs_indexL Tryz.underlying9 rfl rfl (by omega) (by omega)) ?_; refine zo rfl rfl rfl rfl hb16 <| z1 rfl (runs_leq rfl rfl) <| zt rfl rfl hb16 rfl <| zd ?_; exact zv () hst ⟨rfl, congrArg (fun z => some (Value.bool z)) (goR_2 huz (by omega)), trivial⟩
        · have hb16p := hb16; (try simp only [dY, dF] at hb16p); refine zH rfl rfl rfl rfl rfl rfl rfl rfl hb16 <| zH rfl rfl rfl rfl rfl rfl rfl rfl hb16 <| zn rfl rfl hb16 rfl <| zd ?_; exact zv () hst ⟨rfl, congrArg (fun z => some (Value.bool z)) (goR_1 (by omega)), trivial⟩
      · clear hst; rintro _ w hst; refine za <| zb rfl (fun hc23 => ?_) (fun hc23 => ?_)
        · have hcb23 := hc23; (try simp only [dY, dF] at hc23); have hpos := goR_pos hcb23; rw [huz] at hpos; refine zj <| za <| CW.block <| zg <| zm rfl rfl <| zm rfl rfl <| z1 rfl (runs_lenS Tryz.underlying9 rfl) <| z1 rfl (runs_sub rfl rfl (by omega)) ?_; refine z1 rfl (runs_sliceS_h Tryz.underlying9 rfl rfl (by omega)) ?_; refine zS rfl rfl <| zd <| zh ?_
          have he : (u.extract 0 (((u.size : Nat) : Int) - 1).toNat).toList = u.toList.take (u.toList.length - 1) := by
            rw [extract_list, List.drop_zero, huz]
            congr 1
            omega
          have hz := size_toList (u.extract 0 (((u.size : Nat) : Int) - 1).toNat); rw [he, List.length_take] at hz; exact AQ.again (x := u) _ ⟨hst, by rw [he, trimR_go hcb23, hul], by omega⟩ ⟨rfl, trivial⟩ (by omega)
        · have hcb23 := hc23; (try simp only [dY, dF] at hc23); rw [trimR_stop hcb23] at hul; refine CW.exit ?_; refine AQ.past_exit <| AQ.past_exit <| AQ.block_hit <| za <| zR <| zm rfl rfl <| zS rfl rfl <| zM <| CW.ret <| z9 rfl rfl ?_; exact ⟨by rw [← hul, strOf_of], hst⟩
set_option maxRecDepth 100000 in
set_option maxHeartbeats 1000000 in
theorem rpct_spec {w0 w : World} {I : Imm} {L : Own} (hst : St w0 w I L) (s : ByteArray) (hs : s.size ≤ 1000000000) :
    Calls Tryz.prog 97 #[.string s] w fun e w' => ∃ I', Imm.le I I' ∧ e = .returned (.string (strOf (encB s.toList))) ∧ St w0 w' I' L := by
  have hel := encB_len s.toList; rw [size_toList] at hel; refine enter Tryz.func97 rfl (N := 84) rfl rfl ?_
  simp only [zA, zB, zC, zD, zE, Nat.reduceAdd]
  have hle := Imm.le.refl I; refine zR <| zS rfl rfl <| zN <| zS rfl rfl <| zM <| zk <| zR <| zm rfl rfl <| ze rfl (runs_rangeS Tryz.underlying9 rfl hst) ?_; clear hst; rintro _ w ⟨b9, rfl, hst⟩; refine zM <| CW.block <| CW.loop (Nat × List UInt8) (fun x w => St w0 w I ((b9, .stringIter s x.1) :: L) ∧ encB s.toList = x.2 ++ (runesAt s x.1).flatMap encR) (fun x => [(3, .string (strOf x.2)), (10, .pointer (some ⟨b9, 0, none⟩))]) (fun x => s.size - x.1) ⟨(0, []), ⟨hst, by rw [runesAt_zero]; rfl⟩, ⟨rfl, rfl, trivial⟩⟩ ?_; rintro ⟨pos, out⟩ w ⟨hstn, hout⟩; dsimp only at hstn hout ⊢; clear hst; have hst := hstn; clear hstn; refine zR <| ze rfl (runs_nextS rfl hst (k := 0) rfl) ?_; clear hst; rintro _ w ⟨rfl, hst⟩
  simp only [List.set_cons_zero] at hst
  refine z1 rfl (runs_extract rfl (nextV_0 s pos)) <| zM <| zk <| zb rfl (fun hc12 => ?_) (fun hc12 => ?_)
  · have hcb12 := hc12; (try simp only [dY, dF] at hc12); have hnx := runesAt_next hc12; have hmore := nextP_more hc12; have hrl := rune_le s pos; refine zj <| za <| CW.block <| zR <| z1 rfl (runs_extract rfl (nextV_2 hc12)) ?_
    generalize (Utf8.decode s pos).1 = r at hnx hrl ⊢
    rw [hnx, List.flatMap_cons, ← List.append_assoc] at hout; have hol := congrArg List.length hout; rw [List.length_append, List.length_append] at hol; have hrr := encR_len r; have hz := strOf_size out; refine zS rfl rfl <| zM <| zk <| zX Unit (fun _ w => St w0 w I ((b9, .stringIter s (nextP s pos)) :: L)) (fun _ => [(3, .string (strOf out)), (5, .int .i32 (r : Int)), (10, .pointer (some ⟨b9, 0, none⟩)), (6, .bool (!safeR r))]) ?_ ?_
    ·
      refine zg <| zm rfl rfl <| z1 rfl (runs_lss rfl rfl) <| zm rfl rfl <| zi (t := 16) rfl (fun hb16 => ?_) (fun hb16 => ?_)
      · have hb16p := hb16; (try simp only [dY, dF] at hb16p); refine zG rfl rfl rfl rfl rfl rfl hb16 <| zt rfl rfl hb16 rfl <| zm rfl rfl <| zG rfl rfl rfl rfl rfl rfl rfl <| zt rfl rfl rfl rfl <| zm rfl rfl <| zG rfl rfl rfl rfl rfl rfl rfl <| zt rfl rfl rfl rfl <| zm rfl rfl <| zG rfl rfl rfl rfl rfl rfl rfl ?_; refine zt rfl rfl rfl rfl <| zm rfl rfl <| zG rfl rfl rfl rfl rfl rfl rfl <| zt rfl rfl rfl rfl <| zm rfl rfl <| zG rfl rfl rfl rfl rfl rfl rfl <| zt rfl rfl rfl rfl <| zm rfl rfl <| zG rfl rfl rfl rfl rfl rfl rfl <| zt rfl rfl rfl rfl ?_; refine zm rfl rfl <| zG rfl rfl rfl rfl rfl rfl rfl <| zt rfl rfl rfl rfl <| zm rfl rfl <| zG rfl rfl rfl rfl rfl rfl rfl <| zt rfl rfl rfl rfl <| zS rfl rfl <| zd ?_; exact zv () hst ⟨rfl, rfl, rfl, congrArg (fun z => some (Value.bool z)) (bad_1 (by omega)), trivial⟩
      · have hb16p := hb16; (try simp only [dY, dF] at hb16p); refine zo rfl rfl rfl rfl hb16 <| zm rfl rfl <| zo rfl rfl rfl rfl hb16 <| z1 rfl (runs_gtr rfl rfl) <| zn rfl rfl hb16 rfl <| zm rfl rfl <| zi (t := 20) rfl (fun hb20 => ?_) (fun hb20 => ?_)
        · have hb20p := hb20; (try simp only [dY, dF] at hb20p); refine zG rfl rfl rfl rfl rfl rfl hb20 <| zt rfl rfl hb20 rfl <| zm rfl rfl <| zG rfl rfl rfl rfl rfl rfl rfl <| zt rfl rfl rfl rfl <| zm rfl rfl <| zG rfl rfl rfl rfl rfl rfl rfl <| zt rfl rfl rfl rfl <| zm rfl rfl <| zG rfl rfl rfl rfl rfl rfl rfl ?_; refine zt rfl rfl rfl rfl <| zm rfl rfl <| zG rfl rfl rfl rfl rfl rfl rfl <| zt rfl rfl rfl rfl <| zm rfl rfl <| zG rfl rfl rfl rfl rfl rfl rfl <| zt rfl rfl rfl rfl <| zm rfl rfl <| zG rfl rfl rfl rfl rfl rfl rfl <| zt rfl rfl rfl rfl ?_; refine zm rfl rfl <| zG rfl rfl rfl rfl rfl rfl rfl <| zt rfl rfl rfl rfl <| zS rfl rfl <| zd ?_; exact zv () hst ⟨rfl, rfl, rfl, congrArg (fun z => some (Value.bool z)) (bad_1 (by omega)), trivial⟩
        · have hb20p := hb20; (try simp only [dY, dF] at hb20p); refine zo rfl rfl rfl rfl hb20 <| zm rfl rfl <| zo rfl rfl rfl rfl hb20 <| z1 rfl (runs_eqI rfl rfl) <| zn rfl rfl hb20 rfl <| zm rfl rfl <| zi (t := 24) rfl (fun hb24 => ?_) (fun hb24 => ?_)
          · have hb24p := hb24; (try simp only [dY, dF] at hb24p); refine zG rfl rfl rfl rfl rfl rfl hb24 <| zt rfl rfl hb24 rfl <| zm rfl rfl <| zG rfl rfl rfl rfl rfl rfl rfl <| zt rfl rfl rfl rfl <| zm rfl rfl <| zG rfl rfl rfl rfl rfl rfl rfl <| zt rfl rfl rfl rfl <| zm rfl rfl <| zG rfl rfl rfl rfl rfl rfl rfl ?_; refine zt rfl rfl rfl rfl <| zm rfl rfl <| zG rfl rfl rfl rfl rfl rfl rfl <| zt rfl rfl rfl rfl <| zm rfl rfl <| zG rfl rfl rfl rfl rfl rfl rfl <| zt rfl rfl rfl rfl <| zm rfl rfl <| zG rfl rfl rfl rfl rfl rfl rfl <| zt rfl rfl rfl rfl ?_; refine zS rfl rfl <| zd ?_; exact zv () hst ⟨rfl, rfl, rfl, congrArg (fun z => some (Value.bool z)) (bad_1 (by omega)), trivial⟩
          · have hb24p := hb24; (try simp only [dY, dF] at hb24p); refine zo rfl rfl rfl rfl hb24 <| zm rfl rfl <| zo rfl rfl rfl rfl hb24 <| z1 rfl (runs_eqI rfl rfl) <| zn rfl rfl hb24 rfl <| zm rfl rfl <| zi (t := 28) rfl (fun hb28 => ?_) (fun hb28 => ?_)
            · have hb28p := hb28; (try simp only [dY, dF] at hb28p); refine zG rfl rfl rfl rfl rfl rfl hb28 <| zt rfl rfl hb28 rfl <| zm rfl rfl <| zG rfl rfl rfl rfl rfl rfl rfl <| zt rfl rfl rfl rfl <| zm rfl rfl <| zG rfl rfl rfl rfl rfl rfl rfl <| zt rfl rfl rfl rfl <| zm rfl rfl <| zG rfl rfl rfl rfl rfl rfl rfl ?_; refine zt rfl rfl rfl rfl <| zm rfl rfl <| zG rfl rfl rfl rfl rfl rfl rfl <| zt rfl rfl rfl rfl <| zm rfl rfl <| zG rfl rfl rfl rfl rfl rfl rfl <| zt rfl rfl rfl rfl <| zS rfl rfl <| zd ?_; exact zv () hst ⟨rfl, rfl, rfl, congrArg (fun z => some (Value.bool z)) (bad_1 (by omega)), trivial⟩
            · have hb28p := hb28; (try simp only [dY, dF] at hb28p); refine zo rfl rfl rfl rfl hb28 <| zm rfl rfl <| zo rfl rfl rfl rfl hb28 <| z1 rfl (runs_eqI rfl rfl) <| zn rfl rfl hb28 rfl <| zm rfl rfl <| zi (t := 32) rfl (fun hb32 => ?_) (fun hb32 => ?_)
              · have hb32p := hb32; (try simp only [dY, dF] at hb32p); refine zG rfl rfl rfl rfl rfl rfl hb32 <| zt rfl rfl hb32 rfl <| zm rfl rfl <| zG rfl rfl rfl rfl rfl rfl rfl <| zt rfl rfl rfl rfl <| zm rfl rfl <| zG rfl rfl rfl rfl rfl rfl rfl <| zt rfl rfl rfl rfl <| zm rfl rfl <| zG rfl rfl rfl rfl rfl rfl rfl ?_; refine zt rfl rfl rfl rfl <| zm rfl rfl <| zG rfl rfl rfl rfl rfl rfl rfl <| zt rfl rfl rfl rfl <| zS rfl rfl <| zd ?_; exact zv () hst ⟨rfl, rfl, rfl, congrArg (fun z => some (Value.bool z)) (bad_1 (by omega)), trivial⟩
              · have hb32p := hb32; (try simp only [dY, dF] at hb32p); refine zo rfl rfl rfl rfl hb32 <| zm rfl rfl <| zo rfl rfl rfl rfl hb32 <| z1 rfl (runs_eqI rfl rfl) <| zn rfl rfl hb32 rfl <| zm rfl rfl <| zi (t := 36) rfl (fun hb36 => ?_) (fun hb36 => ?_)
                · have hb36p := hb36; (try simp only [dY, dF] at hb36p); refine zG rfl rfl rfl rfl rfl rfl hb36 <| zt rfl rfl hb36 rfl <| zm rfl rfl <| zG rfl rfl rfl rfl rfl rfl rfl <| zt rfl rfl rfl rfl <| zm rfl rfl <| zG rfl rfl rfl rfl rfl rfl rfl <| zt rfl rfl rfl rfl <| zm rfl rfl <| zG rfl rfl rfl rfl rfl rfl rfl ?_; refine zt rfl rfl rfl rfl <| zS rfl rfl <| zd ?_; exact zv () hst ⟨rfl, rfl, rfl, congrArg (fun z => some (Value.bool z)) (bad_1 (by omega)), trivial⟩
                · have hb36p := hb36; (try simp only [dY, dF] at hb36p); refine zo rfl rfl rfl rfl hb36 <| zm rfl rfl <| zo rfl rfl rfl rfl hb36 <| z1 rfl (runs_eqI rfl rfl) <| zn rfl rfl hb36 rfl <| zm rfl rfl <| zi (t := 40) rfl (fun hb40 => ?_) (fun hb40 => ?_)
                  · have hb40p := hb40; (try simp only [dY, dF] at hb40p); refine zG rfl rfl rfl rfl rfl rfl hb40 <| zt rfl rfl hb40 rfl <| zm rfl rfl <| zG rfl rfl rfl rfl rfl rfl rfl <| zt rfl rfl rfl rfl <| zm rfl rfl <| zG rfl rfl rfl rfl rfl rfl rfl <| zt rfl rfl rfl rfl <| zS rfl rfl <| zd ?_; exact zv () hst ⟨rfl, rfl, rfl, congrArg (fun z => some (Value.bool z)) (bad_1 (by omega)), trivial⟩
                  · have hb40p := hb40; (try simp only [dY, dF] at hb40p); refine zo rfl rfl rfl rfl hb40 <| zm rfl rfl <| zo rfl rfl rfl rfl hb40 <| z1 rfl (runs_eqI rfl rfl) <| zn rfl rfl hb40 rfl <| zm rfl rfl <| zi (t := 44) rfl (fun hb44 => ?_) (fun hb44 => ?_)
                    · have hb44p := hb44; (try simp only [dY, dF] at hb44p); refine zG rfl rfl rfl rfl rfl rfl hb44 <| zt rfl rfl hb44 rfl <| zm rfl rfl <| zG rfl rfl rfl rfl rfl rfl rfl <| zt rfl rfl rfl rfl <| zS rfl rfl <| zd ?_; exact zv () hst ⟨rfl, rfl, rfl, congrArg (fun z => some (Value.bool z)) (bad_1 (by omega)), trivial⟩
                    · have hb44p := hb44; (try simp only [dY, dF] at hb44p); refine zo rfl rfl rfl rfl hb44 <| zm rfl rfl <| zo rfl rfl rfl rfl hb44 <| z1 rfl (runs_eqI rfl rfl) <| zn rfl rfl hb44 rfl <| zm rfl rfl <| zi (t := 48) rfl (fun hb48 => ?_) (fun hb48 => ?_)
                      · have hb48p := hb48; (try simp only [dY, dF] at hb48p); refine zG rfl rfl rfl rfl rfl rfl hb48 <| zt rfl rfl hb48 rfl <| zS rfl rfl <| zd ?_; exact zv () hst ⟨rfl, rfl, rfl, congrArg (fun z => some (Value.bool z)) (bad_1 (by omega)), trivial⟩
                      · have hb48p := hb48; (try simp only [dY, dF] at hb48p); refine zo rfl rfl rfl rfl hb48 <| zm rfl rfl <| zo rfl rfl rfl rfl hb48 <| z1 rfl (runs_eqI rfl rfl) <| zn rfl rfl hb48 rfl <| zS rfl rfl <| zd ?_; exact zv () hst ⟨rfl, rfl, rfl, congrArg (fun z => some (Value.bool z)) (bad_2 (by omega) (by omega) (by omega) (by omega) (by omega) (by omega) (by omega) (by omega) (by omega)), trivial⟩
    · clear hst; rintro _ w hst; refine za <| zk <| zR <| zm rfl rfl <| z1 rfl (runs_not rfl) <| zM <| zb rfl (fun hc53 => ?_) (fun hc53 => ?_)
      · have hcb53 := hc53; (try simp only [dY, dF] at hc53)
        have hsr : safeR r = true := by revert hcb53; cases safeR r <;> simp
        have hr1 : encR r = encL (r : Int) := by
          unfold encR; rw [if_pos hsr, encL_one (by omega) (by have := safe_small hsr; omega)]
        refine zR <| zm rfl rfl <| zm rfl rfl <| z1 rfl (runs_runeStr (by rw [Tryz.underlying21]; rfl) Tryz.underlying9 rfl) ?_; rw [enc_str]; have hz2 := strOf_size (encL (r : Int)); have h4 := (encL_len (r : Int)).2; refine z1 rfl (runs_addS rfl rfl (by omega)) ?_; rw [strOf_app]; refine zS rfl rfl <| zM <| CW.exit ?_; refine AQ.past_exit <| AQ.block_hit ?_; exact AQ.again (x := (pos, out)) (nextP s pos, _) ⟨hst, by rw [hout, hr1]⟩ ⟨rfl, rfl, trivial⟩ (by dsimp only; omega)
      · have hcb53 := hc53; (try simp only [dY, dF] at hc53)
        have hr1 : encR r = (encL (r : Int)).flatMap pctB := by
          unfold encR; rw [if_neg (by revert hcb53; cases safeR r <;> simp)]
        refine zj <| za <| zR <| zm rfl rfl <| z1 rfl (runs_runeStr (by rw [Tryz.underlying21]; rfl) Tryz.underlying9 rfl) ?_; refine ze rfl (runs_bytesOf Tryz.underlying9 Tryz.underlying52 Tryz.underlying5 rfl hst) ?_; clear hst; rintro _ w ⟨b31, cap31, pad31, rfl, hcap31, hst⟩; refine z1 rfl (runs_lenL Tryz.underlying52 rfl) <| zm rfl rfl <| zM <| CW.block <| CW.loop Nat (fun j w => St w0 w I ((b31, rowB (encL (r : Int)) pad31 5) :: (b9, .stringIter s (nextP s pos)) :: L) ∧ j ≤ (encL (r : Int)).length) (fun j => [(3, .string (strOf (out ++ ((encL (r : Int)).take j).flatMap pctB))), (10, .pointer (some ⟨b9, 0, none⟩)), (60, .slice (some ⟨b31, 0, none⟩) (encL (r : Int)).length cap31), (61, .int .i64 ((encL (r : Int)).length : Nat)), (62, .int .i64 (j : Nat))]) (fun j => (encL (r : Int)).length - j) ⟨0, ⟨hst, Nat.zero_le _⟩, ⟨by rw [List.take_zero, List.flatMap_nil, List.append_nil]; rfl, rfl, rfl, rfl, rfl, trivial⟩⟩ ?_; clear hst; rintro j w ⟨hst, hj⟩; have h4 := (encL_len (r : Int)).2; refine zR <| z1 rfl (runs_lss rfl rfl) <| zM <| zk <| zb rfl (fun hc63 => ?_) (fun hc63 => ?_)
        · have hcb63 := hc63; (try simp only [dY, dF] at hc63)
          have hj1 : j < (encL (r : Int)).length := by omega
          have hget := rowB_get (bs := encL (r : Int)) (pad := pad31) hj1; have hft := flat_take (f := pctB) hj1; have h5 := flat_len (f := pctB) (n := 3) ((encL (r : Int)).take j) (fun _ _ => by simp [pctB]); rw [List.length_take] at h5
          generalize ((encL (r : Int)).take j).flatMap pctB = o2 at hft h5 ⊢
          generalize (encL (r : Int)).getD j 0 = c at hget hft
          have hz2 := strOf_size (out ++ o2); rw [List.length_append] at hz2; have hcl := c.toNat_lt; refine zj <| za <| zk <| CW.block <| zR <| z1 rfl (runs_indexAddr0 Tryz.underlying52 ti5 rfl rfl (by omega)) ?_; refine z1 rfl (runs_load1 sc5 rfl (hst.cell_own (k := 0) rfl (by rw [Nat.zero_add, Int.toNat_natCast, Nat.mul_one]; exact hget))) ?_; refine zS rfl rfl <| zM ?_; refine CW.draw (fun _ => True) (.q 0 (.q 1 (.q 2 (.q 3 (.q 4 (.q 5 (.q 6 (.q 7 (.q 8 (.q 9 (.q 10 (.q 11 (.q 12 (.q 13 (.q 14 (.q 15 (.q 16 .nil))))))))))))))))) follows (by kernel_rfl) trivial ?_; replace hst := hst.draw; refine ym rfl rfl rfl <| ym rfl rfl rfl <| DRW.q rfl rfl (fun w' hF => runs_shrE (n := 4) rfl rfl (by decide)) ?_; rw [show ((c.toNat : Nat) : Int) / 2 ^ 4 = ((c.toNat / 16 : Nat) : Int) from rfl]; refine ym rfl rfl rfl <| DRW.q rfl rfl (fun w' hF => runs_shrE (n := 4) rfl rfl (by decide)) ?_; rw [show ((c.toNat : Nat) : Int) / 2 ^ 4 = ((c.toNat / 16 : Nat) : Int) from rfl]; refine DRW.q rfl rfl (fun w' hF => runs_addW rfl rfl) ?_; refine DRW.q rfl rfl (fun w' hF => runs_hexSl (n := c.toNat / 16) Tryz.underlying9 rfl rfl rfl rfl (by rw [IntKind.wrap_u8]; omega) (by omega)) ?_; refine DRW.q rfl rfl (fun w' hF => runs_addS rfl rfl (by rw [strOf_size]; show 1 + 1 ≤ _; omega)) ?_; rw [show (⟨#[37]⟩ : ByteArray) ++ strOf [hexD (c.toNat / 16)] = strOf [37, hexD (c.toNat / 16)] from strOf_app [37] _]; refine ym rfl rfl rfl <| DRW.q rfl rfl (fun w' hF => runs_and rfl rfl) ?_; rw [and15]; refine ym rfl rfl rfl <| DRW.q rfl rfl (fun w' hF => runs_and rfl rfl) ?_; rw [and15]; refine DRW.q rfl rfl (fun w' hF => runs_addW rfl rfl) ?_; refine DRW.q rfl rfl (fun w' hF => runs_hexSl (n := c.toNat % 16) Tryz.underlying9 rfl rfl rfl rfl (by rw [IntKind.wrap_u8]; omega) (by omega)) ?_; refine DRW.q rfl rfl (fun w' hF => runs_addS rfl rfl (by rw [strOf_size, strOf_size]; show 2 + 1 ≤ _; omega)) ?_; rw [strOf_app, show [37, hexD (c.toNat / 16)] ++ [hexD (c.toNat % 16)] = pctB c from rfl]; have hz3 := strOf_size (pctB c); have hz4 : (pctB c).length = 3 := rfl; refine DRW.q rfl rfl (fun w' hF => runs_addS rfl rfl (by omega)) ?_; rw [strOf_app, List.append_assoc, ← hft]; refine yS rfl rfl rfl <| DRW.done <| zh <| za <| zg <| z1 rfl (runs_add rfl rfl (by omega)) ?_; refine zm rfl rfl <| zd ?_; exact AQ.again (x := j) (j + 1) ⟨hst, by omega⟩ ⟨rfl, rfl, rfl, rfl, rfl, trivial⟩ (by omega)
        · have hcb63 := hc63; (try simp only [dY, dF] at hc63)
          have hj2 : (encL (r : Int)).flatMap pctB = ((encL (r : Int)).take j).flatMap pctB := by rw [List.take_of_length_le (by omega)]
          refine CW.exit ?_; refine AQ.past_exit <| AQ.past_exit <| AQ.block_hit <| zh ?_; exact AQ.again (x := (pos, out)) (nextP s pos, _) ⟨hst.drop1, by rw [hout, hr1, hj2]⟩ ⟨rfl, rfl, trivial⟩ (by dsimp only; omega)
  · have hcb12 := hc12; (try simp only [dY, dF] at hc12); have hnx := runesAt_end hc12; refine CW.exit ?_; refine AQ.past_exit <| AQ.past_exit <| AQ.block_hit <| za <| zR ?_; rw [hnx, List.flatMap_nil, List.append_nil] at hout; rw [← hout]; refine zm rfl rfl <| zS rfl rfl <| zM <| CW.ret <| z9 rfl rfl ?_; exact ⟨I, hle, rfl, hst.drop1⟩
def dg (k : Nat) : UInt8 := u8 (48 + (k : Int))
def digF : Nat → Nat → List UInt8
  | 0, _ => []
  | f + 1, n => if n < 10 then [dg n] else digF f (n / 10) ++ [dg (n % 10)]
theorem digF_len : ∀ (f n : Nat), (digF f n).length ≤ f
  | 0, _ => Nat.le_refl 0
  | f + 1, n => by
    unfold digF; have := digF_len f (n / 10)
    split
    · simp
    · simp; omega
def tenS : ByteArray := ⟨#[48, 49, 50, 51, 52, 53, 54, 55, 56, 57]⟩
theorem ten_at : ∀ k, k < 10 → ((tenS.extract k tenS.size).extract 0 ((1 : Int)).toNat) = strOf [dg k] := by decide
theorem ten_size : ∀ k, k < 10 → (1 : Int) ≤ (tenS.extract k tenS.size).size := by decide
set_option maxRecDepth 100000 in
set_option maxHeartbeats 1000000 in
theorem digits_step {w0 w : World} {I : Imm} {L : Own} (hst : St w0 w I L) (f : Nat) (ih : ∀ g, f = g + 1 → ∀ (m : Nat) {w0 w : World} {I : Imm} {L : Own}, St w0 w I L → m < 10 ^ g → m ≤ 9223372036854775807 → Calls Tryz.prog 126 #[.int .i64 (m : Int)] w fun e w' => e = .returned (.string (strOf (digF (g + 1) m))) ∧ St w0 w' I L) (m : Nat) (hm : m < 10 ^ f) (hm2 : m ≤ 9223372036854775807) (hf : f ≤ 100) :
    Calls Tryz.prog 126 #[.int .i64 (m : Int)] w fun e w' => e = .returned (.string (strOf (digF (f + 1) m))) ∧ St w0 w' I L := by
  refine enter Tryz.func126 rfl (N := 17) rfl rfl ?_
  simp only [zA, zB, zC, zD, zE, Nat.reduceAdd]
  have hle := Imm.le.refl I; refine zR <| zS rfl rfl <| zM <| zk <| zR <| zm rfl rfl <| z1 rfl (runs_lss rfl rfl) <| zM <| zb rfl (fun hc4 => ?_) (fun hc4 => ?_)
  · have hcb4 := hc4; (try simp only [dY, dF] at hc4)
    have hk : m < 10 := by omega
    have ha := ten_at m hk; have hsz := ten_size m hk; refine zR <| zm rfl rfl <| z1 rfl (runs_max rfl rfl) ?_; rw [show (if (0 : Int) > (m : Int) then 0 else (m : Int)) = ((m : Nat) : Int) by split <;> omega]; refine z1 rfl (runs_sliceS_l (s := tenS) Tryz.underlying9 rfl rfl (by show 0 ≤ (m : Int) ∧ (m : Int) ≤ 10; omega)) ?_; refine z1 rfl (runs_sliceS_h (s := tenS.extract m tenS.size) (hi := 1) Tryz.underlying9 rfl rfl (by omega)) ?_; rw [ha]; refine zS rfl rfl <| zM <| CW.ret <| zr <| z9 rfl rfl ?_; refine ⟨?_, hst⟩; unfold digF; rw [if_pos hk]
  · have hcb4 := hc4; (try simp only [dY, dF] at hc4)
    obtain ⟨g, rfl⟩ : ∃ g, f = g + 1 := by
      cases f with
      | zero => simp at hm; omega
      | succ g => exact ⟨g, rfl⟩
    have hk : m % 10 < 10 := Nat.mod_lt _ (by decide); have ha := ten_at (m % 10) hk; have hsz := ten_size (m % 10) hk
    have hlt : m / 10 < 10 ^ g := by rw [Nat.pow_succ] at hm; omega
    have hdl := digF_len (g + 1) (m / 10)
    generalize hkk : m % 10 = k at hk ha hsz
    have hqb : m / 10 ≤ 9223372036854775807 := by omega
    generalize hqq : m / 10 = q at hlt hdl hqb
    refine zj <| za <| zk ?_; refine CW.drawSt hst (.q 0 (.q 1 (.q 3 (.q 4 (.q 5 (.q 6 (.l 2 (.q 7 (.q 8 .nil))))))))) follows (by kernel_rfl) (fun w hst => ?_); refine ym rfl rfl rfl <| DRW.q rfl rfl (fun w' hF => runs_quo rfl rfl (by omega)) ?_; rw [show (m : Int).tdiv 10 = ((m / 10 : Nat) : Int) from rfl, hqq, wrap_i64 (n := (q : Int)) (by omega)]; refine ym rfl rfl rfl <| DRW.q rfl rfl (fun w' hF => runs_rem rfl rfl (by omega)) ?_; rw [show (m : Int).tmod 10 = ((m % 10 : Nat) : Int) from rfl, hkk]; refine DRW.q rfl rfl (fun w' hF => runs_sliceS_l (s := tenS) Tryz.underlying9 rfl rfl (by show 0 ≤ (k : Int) ∧ (k : Int) ≤ 10; omega)) ?_; refine DRW.q rfl rfl (fun w' hF => runs_sliceS_h (s := tenS.extract k tenS.size) (hi := 1) Tryz.underlying9 rfl rfl (by omega)) ?_; rw [ha]; refine yC rfl rfl call126 rfl rfl (ih g rfl q hst hlt hqb) ?_; clear hst; rintro e w ⟨rfl, hst⟩; refine ⟨_, rfl, FSt.ofA hst (Imm.le.refl _), ?_⟩; refine DRW.q rfl rfl (fun w' hF => runs_addS rfl rfl (by rw [strOf_size, strOf_size]; simp only [List.length_cons, List.length_nil]; omega)) ?_; refine yS rfl rfl rfl <| DRW.done <| za <| CW.ret <| z9 rfl rfl ?_; refine ⟨?_, hst⟩; rw [strOf_append]
    conv => rhs; unfold digF
    rw [if_neg (by omega), hkk, hqq]
theorem digits_room : ∀ (f : Nat), f ≤ 100 → ∀ (m : Nat) {w0 w : World} {I : Imm} {L : Own}, St w0 w I L → m < 10 ^ f → m ≤ 9223372036854775807 → Calls Tryz.prog 126 #[.int .i64 (m : Int)] w fun e w' => e = .returned (.string (strOf (digF (f + 1) m))) ∧ St w0 w' I L := by
  intro f
  induction f with
  | zero => intro hf m w0 w I L hst hm hm2; exact digits_step hst 0 (fun g hg => by omega) m hm hm2 hf
  | succ g ih =>
    intro hf m w0 w I L hst hm hm2; refine digits_step hst (g + 1) (fun g' hg m' w0 w I L hst hm' hb => ?_) m hm hm2 hf
    obtain rfl : g = g' := by omega
    exact ih (by omega) m' hst hm' hb
set_option maxRecDepth 100000 in
set_option maxHeartbeats 1000000 in
theorem host_spec {w0 w : World} {I : Imm} {L : Own} (hst : St w0 w I L) (s : ByteArray) (hs : s.size ≤ 1000000000) :
    Calls Tryz.prog 93 #[.string s] w fun e w' => ∃ b, e = .returned (.bool b) ∧ St w0 w' I L := by
  have hsz := size_toList s; refine enter Tryz.func93 rfl (N := 69) rfl rfl ?_
  simp only [zA, zB, zC, zD, zE, Nat.reduceAdd]
  have hle := Imm.le.refl I; refine zR <| zS rfl rfl <| zM <| zk <| zk <| zX Bool (fun b w => St w0 w I L ∧ (b = false → 1 ≤ s.toList.length ∧ s.toList.getD (s.toList.length - 1) 0 ≠ 46)) (fun b => [(0, .string s), (25, .bool b)]) ?_ ?_
  ·
    refine zg <| zm rfl rfl <| z1 rfl (runs_lenS Tryz.underlying9 rfl) <| z1 rfl (runs_lss rfl rfl) <| zm rfl rfl <| zi (t := 8) rfl (fun hb8 => ?_) (fun hb8 => ?_)
    · have hb8p := hb8; (try simp only [dY, dF] at hb8p); refine zH rfl rfl rfl rfl rfl rfl rfl rfl hb8 <| zt rfl rfl hb8 rfl <| zm rfl rfl <| zH rfl rfl rfl rfl rfl rfl rfl rfl rfl <| zt rfl rfl rfl rfl <| zm rfl rfl <| zH rfl rfl rfl rfl rfl rfl rfl rfl rfl <| zH rfl rfl rfl rfl rfl rfl rfl rfl rfl <| zt rfl rfl rfl rfl <| zd ?_
      first
        | exact zv (_ : Bool) ⟨hst, fun h => by cases h⟩ ⟨rfl, rfl, trivial⟩
        | exact zv (_ : Bool) ⟨hst, fun h => ⟨by omega, fun h2 => by
            rw [show (((s.size : Nat) : Int) - 1).toNat = s.toList.length - 1 by omega, h2] at h
            simp at h⟩⟩ ⟨rfl, rfl, trivial⟩
    · have hb8p := hb8; (try simp only [dY, dF] at hb8p); refine zo rfl rfl rfl rfl hb8 <| zm rfl rfl <| zo rfl rfl rfl rfl hb8 <| z1 rfl (runs_lenS Tryz.underlying9 rfl) <| zo rfl rfl rfl rfl hb8 <| z1 rfl (runs_gtr rfl rfl) <| zn rfl rfl hb8 rfl <| zm rfl rfl <| zi (t := 13) rfl (fun hb13 => ?_) (fun hb13 => ?_)
      · have hb13p := hb13; (try simp only [dY, dF] at hb13p); refine zH rfl rfl rfl rfl rfl rfl rfl rfl hb13 <| zt rfl rfl hb13 rfl <| zm rfl rfl <| zH rfl rfl rfl rfl rfl rfl rfl rfl rfl <| zH rfl rfl rfl rfl rfl rfl rfl rfl rfl <| zt rfl rfl rfl rfl <| zd ?_
        first
          | exact zv (_ : Bool) ⟨hst, fun h => by cases h⟩ ⟨rfl, rfl, trivial⟩
          | exact zv (_ : Bool) ⟨hst, fun h => ⟨by omega, fun h2 => by
              rw [show (((s.size : Nat) : Int) - 1).toNat = s.toList.length - 1 by omega, h2] at h
              simp at h⟩⟩ ⟨rfl, rfl, trivial⟩
      · have hb13p := hb13; (try simp only [dY, dF] at hb13p); refine zo rfl rfl rfl rfl hb13 <| zm rfl rfl <| zo rfl rfl rfl rfl hb13 <| z1 rfl (runs_indexL Tryz.underlying9 rfl rfl (by omega) (by rw [size_toList] at *; omega)) ?_; refine zo rfl rfl rfl rfl hb13 <| z1 rfl (runs_eqI rfl rfl) <| zn rfl rfl hb13 rfl <| zm rfl rfl <| zi (t := 18) rfl (fun hb18 => ?_) (fun hb18 => ?_)
        · have hb18p := hb18; (try simp only [dY, dF] at hb18p); refine zH rfl rfl rfl rfl rfl rfl rfl rfl hb18 <| zH rfl rfl rfl rfl rfl rfl rfl rfl hb18 <| zt rfl rfl hb18 rfl <| zd ?_
          first
            | exact zv (_ : Bool) ⟨hst, fun h => by cases h⟩ ⟨rfl, rfl, trivial⟩
            | exact zv (_ : Bool) ⟨hst, fun h => ⟨by omega, fun h2 => by
                rw [show (((s.size : Nat) : Int) - 1).toNat = s.toList.length - 1 by omega, h2] at h
                simp at h⟩⟩ ⟨rfl, rfl, trivial⟩
        · have hb18p := hb18; (try simp only [dY, dF] at hb18p); refine zo rfl rfl rfl rfl hb18 <| zm rfl rfl <| zo rfl rfl rfl rfl hb18 <| zm rfl rfl <| zo rfl rfl rfl rfl hb18 <| z1 rfl (runs_lenS Tryz.underlying9 rfl) <| zo rfl rfl rfl rfl hb18 <| z1 rfl (runs_sub rfl rfl (by omega)) ?_; refine zo rfl rfl rfl rfl hb18 <| z1 rfl (runs_indexL Tryz.underlying9 rfl rfl (by omega) (by omega)) ?_; refine zo rfl rfl rfl rfl hb18 <| z1 rfl (runs_eqI rfl rfl) <| zn rfl rfl hb18 rfl <| zd ?_
          first
            | exact zv (_ : Bool) ⟨hst, fun h => by cases h⟩ ⟨rfl, rfl, trivial⟩
            | exact zv (_ : Bool) ⟨hst, fun h => ⟨by omega, fun h2 => by
                rw [show (((s.size : Nat) : Int) - 1).toNat = s.toList.length - 1 by omega, h2] at h
                simp at h⟩⟩ ⟨rfl, rfl, trivial⟩
  · clear hst; rintro bx w ⟨hst, hbx⟩; refine za <| zb rfl (fun hc25 => ?_) (fun hc25 => ?_)
    · refine zR <| zS rfl rfl <| zM <| CW.ret <| zr <| z9 rfl rfl ?_; exact ⟨_, rfl, hst⟩
    · have hcb25 := hc25; (try simp only [dY, dF] at hc25); have h25 := hbx hcb25; refine zj <| za <| zk <| zR <| zS rfl rfl <| zM <| CW.block <| CW.loop Nat (fun k w => St w0 w I L ∧ k ≤ s.toList.length) (fun k => [(0, .string s), (3, .int .i64 (k : Int))]) (fun k => s.toList.length - k) ⟨0, ⟨hst, Nat.zero_le _⟩, ⟨rfl, rfl, trivial⟩⟩ ?_; clear hst; rintro k w ⟨hst, hk⟩; refine zk <| zR <| zm rfl rfl <| zm rfl rfl <| z1 rfl (runs_lenS Tryz.underlying9 rfl) <| z1 rfl (runs_lss rfl rfl) <| zM <| zb rfl (fun hc29 => ?_) (fun hc29 => ?_)
      · have hcb29 := hc29; (try simp only [dY, dF] at hc29)
        have hk1 : k < s.toList.length := by omega
        obtain ⟨c, hc⟩ : ∃ c, s.toList.getD k 0 = c := ⟨_, rfl⟩; refine zj <| za <| zk <| CW.block <| zR <| zm rfl rfl <| zm rfl rfl <| z1 rfl (runs_indexL Tryz.underlying9 rfl rfl (by omega) (by omega)) ?_; refine zS rfl rfl <| zM <| zk <| zX Bool (fun _ w => St w0 w I L) (fun b => [(0, .string s), (3, .int .i64 (k : Int)), (68, .bool b)]) ?_ ?_
        ·
          refine zg <| zm rfl rfl <| z1 rfl (runs_geq rfl rfl) <| zm rfl rfl <| zi (t := 37) rfl (fun hb37 => ?_) (fun hb37 => ?_)
          · have hb37p := hb37; (try simp only [dY, dF] at hb37p); refine zo rfl rfl rfl rfl hb37 <| zm rfl rfl <| zo rfl rfl rfl rfl hb37 <| z1 rfl (runs_leq rfl rfl) <| zt rfl rfl hb37 rfl <| zm rfl rfl <| zi (t := 41) rfl (fun hb41 => ?_) (fun hb41 => ?_)
            · have hb41p := hb41; (try simp only [dY, dF] at hb41p); refine zH rfl rfl rfl rfl rfl rfl rfl rfl hb41 <| zu rfl rfl rfl rfl ?_; refine zu rfl rfl rfl rfl ?_; refine zf rfl rfl rfl rfl hb41 <| zt rfl rfl hb41 rfl <| zm rfl rfl <| zG rfl rfl rfl rfl rfl rfl rfl <| zt rfl rfl rfl rfl <| zm rfl rfl <| zG rfl rfl rfl rfl rfl rfl rfl <| zt rfl rfl rfl rfl <| z1 rfl (runs_not rfl) <| zm rfl rfl ?_; refine zi (t := 58) rfl (fun hb58 => ?_) (fun hb58 => ?_)
              · refine zH rfl rfl rfl rfl rfl rfl rfl rfl hb58 <| zu rfl rfl rfl rfl ?_; refine zu rfl rfl rfl rfl ?_; refine zu rfl rfl rfl rfl ?_; refine zu rfl rfl rfl rfl ?_; refine zu rfl rfl rfl rfl ?_; refine zf rfl rfl rfl rfl hb58 <| zt rfl rfl hb58 rfl <| zd ?_; exact zv (_ : Bool) hst ⟨rfl, rfl, rfl, trivial⟩
              · have hb58p := hb58; (try simp only [dY, dF] at hb58p); refine zo rfl rfl rfl rfl hb58 <| zm rfl rfl <| zo rfl rfl rfl rfl hb58 <| z1 rfl (runs_eqI rfl rfl) <| zo rfl rfl rfl rfl hb58 <| zm rfl rfl <| zi (t := 61) rfl (fun hb61 => ?_) (fun hb61 => ?_)
                · have hb61p := hb61; (try simp only [dY, dF] at hb61p)
                  have hk2 : k + 1 < s.toList.length := by
                    rcases Nat.lt_or_ge (k + 1) s.toList.length with h | h
                    · exact h
                    · exfalso
                      have e : s.toList.length - 1 = k := by omega
                      rw [e] at h25
                      apply h25.2
                      apply UInt8.toNat.inj
                      have : ((s.toList.getD ((k : Int)).toNat 0).toNat : Int) = 46 := by simpa using hb61
                      rw [Int.toNat_natCast] at this; have e46 : (46 : UInt8).toNat = 46 := rfl; omega
                  refine zo rfl rfl rfl rfl hb61 <| zm rfl rfl <| zo rfl rfl rfl rfl hb61 <| zm rfl rfl <| zo rfl rfl rfl rfl hb61 <| z1 rfl (runs_add rfl rfl (by omega)) ?_; refine zo rfl rfl rfl rfl hb61 <| z1 rfl (runs_indexL Tryz.underlying9 rfl rfl (by omega) (by omega)) ?_; refine zo rfl rfl rfl rfl hb61 <| z1 rfl (runs_eqI rfl rfl) <| zo rfl rfl rfl rfl hb58 <| zt rfl rfl hb61 rfl <| zn rfl rfl hb58 rfl <| zd ?_; exact zv (_ : Bool) hst ⟨rfl, rfl, rfl, trivial⟩
                · refine zH rfl rfl rfl rfl rfl rfl rfl rfl hb61 <| zG rfl rfl rfl rfl rfl rfl hb61 <| zo rfl rfl rfl rfl hb58 <| zn rfl rfl hb61 rfl <| zn rfl rfl hb58 rfl <| zd ?_; exact zv (_ : Bool) hst ⟨rfl, rfl, rfl, trivial⟩
            · have hb41p := hb41; (try simp only [dY, dF] at hb41p); refine zo rfl rfl rfl rfl hb41 <| zm rfl rfl <| zo rfl rfl rfl rfl hb41 <| z1 rfl (runs_geq rfl rfl) <| zo rfl rfl rfl rfl hb41 <| zm rfl rfl <| zi (t := 44) rfl (fun hb44 => ?_) (fun hb44 => ?_)
              · have hb44p := hb44; (try simp only [dY, dF] at hb44p); refine zo rfl rfl rfl rfl hb44 <| zm rfl rfl <| zo rfl rfl rfl rfl hb44 <| z1 rfl (runs_leq rfl rfl) <| zo rfl rfl rfl rfl hb41 <| zt rfl rfl hb44 rfl <| zn rfl rfl hb41 rfl <| zm rfl rfl <| zi (t := 49) rfl (fun hb49 => ?_) (fun hb49 => ?_)
                · have hb49p := hb49; (try simp only [dY, dF] at hb49p); refine zG rfl rfl rfl rfl rfl rfl hb49 <| zt rfl rfl hb49 rfl <| zm rfl rfl <| zG rfl rfl rfl rfl rfl rfl rfl <| zt rfl rfl rfl rfl <| z1 rfl (runs_not rfl) <| zm rfl rfl <| zi (t := 58) rfl (fun hb58 => ?_) (fun hb58 => ?_)
                  · refine zH rfl rfl rfl rfl rfl rfl rfl rfl hb58 <| zu rfl rfl rfl rfl ?_; refine zu rfl rfl rfl rfl ?_; refine zu rfl rfl rfl rfl ?_; refine zu rfl rfl rfl rfl ?_; refine zu rfl rfl rfl rfl ?_; refine zf rfl rfl rfl rfl hb58 <| zt rfl rfl hb58 rfl <| zd ?_; exact zv (_ : Bool) hst ⟨rfl, rfl, rfl, trivial⟩
                  · have hb58p := hb58; (try simp only [dY, dF] at hb58p); refine zo rfl rfl rfl rfl hb58 <| zm rfl rfl <| zo rfl rfl rfl rfl hb58 <| z1 rfl (runs_eqI rfl rfl) <| zo rfl rfl rfl rfl hb58 <| zm rfl rfl <| zi (t := 61) rfl (fun hb61 => ?_) (fun hb61 => ?_)
                    · have hb61p := hb61; (try simp only [dY, dF] at hb61p)
                      have hk2 : k + 1 < s.toList.length := by
                        rcases Nat.lt_or_ge (k + 1) s.toList.length with h | h
                        · exact h
                        · exfalso
                          have e : s.toList.length - 1 = k := by omega
                          rw [e] at h25
                          apply h25.2
                          apply UInt8.toNat.inj
                          have : ((s.toList.getD ((k : Int)).toNat 0).toNat : Int) = 46 := by simpa using hb61
                          rw [Int.toNat_natCast] at this; have e46 : (46 : UInt8).toNat = 46 := rfl; omega
                      refine zo rfl rfl rfl rfl hb61 <| zm rfl rfl <| zo rfl rfl rfl rfl hb61 <| zm rfl rfl <| zo rfl rfl rfl rfl hb61 <| z1 rfl (runs_add rfl rfl (by omega)) ?_; refine zo rfl rfl rfl rfl hb61 <| z1 rfl (runs_indexL Tryz.underlying9 rfl rfl (by omega) (by omega)) ?_; refine zo rfl rfl rfl rfl hb61 <| z1 rfl (runs_eqI rfl rfl) <| zo rfl rfl rfl rfl hb58 <| zt rfl rfl hb61 rfl <| zn rfl rfl hb58 rfl <| zd ?_; exact zv (_ : Bool) hst ⟨rfl, rfl, rfl, trivial⟩
                    · refine zH rfl rfl rfl rfl rfl rfl rfl rfl hb61 <| zG rfl rfl rfl rfl rfl rfl hb61 <| zo rfl rfl rfl rfl hb58 <| zn rfl rfl hb61 rfl <| zn rfl rfl hb58 rfl <| zd ?_; exact zv (_ : Bool) hst ⟨rfl, rfl, rfl, trivial⟩
                · have hb49p := hb49; (try simp only [dY, dF] at hb49p); refine zo rfl rfl rfl rfl hb49 <| zm rfl rfl <| zo rfl rfl rfl rfl hb49 <| z1 rfl (runs_eqI rfl rfl) <| zn rfl rfl hb49 rfl <| zm rfl rfl <| zi (t := 53) rfl (fun hb53 => ?_) (fun hb53 => ?_)
                  · have hb53p := hb53; (try simp only [dY, dF] at hb53p); refine zG rfl rfl rfl rfl rfl rfl hb53 <| zt rfl rfl hb53 rfl <| z1 rfl (runs_not rfl) <| zm rfl rfl <| zi (t := 58) rfl (fun hb58 => ?_) (fun hb58 => ?_)
                    · refine zH rfl rfl rfl rfl rfl rfl rfl rfl hb58 <| zu rfl rfl rfl rfl ?_; refine zu rfl rfl rfl rfl ?_; refine zu rfl rfl rfl rfl ?_; refine zu rfl rfl rfl rfl ?_; refine zu rfl rfl rfl rfl ?_; refine zf rfl rfl rfl rfl hb58 <| zt rfl rfl hb58 rfl <| zd ?_; exact zv (_ : Bool) hst ⟨rfl, rfl, rfl, trivial⟩
                    · have hb58p := hb58; (try simp only [dY, dF] at hb58p); refine zo rfl rfl rfl rfl hb58 <| zm rfl rfl <| zo rfl rfl rfl rfl hb58 <| z1 rfl (runs_eqI rfl rfl) <| zo rfl rfl rfl rfl hb58 <| zm rfl rfl <| zi (t := 61) rfl (fun hb61 => ?_) (fun hb61 => ?_)
                      · have hb61p := hb61; (try simp only [dY, dF] at hb61p)
                        have hk2 : k + 1 < s.toList.length := by
                          rcases Nat.lt_or_ge (k + 1) s.toList.length with h | h
                          · exact h
                          · exfalso
                            have e : s.toList.length - 1 = k := by omega
                            rw [e] at h25
                            apply h25.2
                            apply UInt8.toNat.inj
                            have : ((s.toList.getD ((k : Int)).toNat 0).toNat : Int) = 46 := by simpa using hb61
                            rw [Int.toNat_natCast] at this; have e46 : (46 : UInt8).toNat = 46 := rfl; omega
                        refine zo rfl rfl rfl rfl hb61 <| zm rfl rfl <| zo rfl rfl rfl rfl hb61 <| zm rfl rfl <| zo rfl rfl rfl rfl hb61 <| z1 rfl (runs_add rfl rfl (by omega)) ?_; refine zo rfl rfl rfl rfl hb61 <| z1 rfl (runs_indexL Tryz.underlying9 rfl rfl (by omega) (by omega)) ?_; refine zo rfl rfl rfl rfl hb61 <| z1 rfl (runs_eqI rfl rfl) <| zo rfl rfl rfl rfl hb58 <| zt rfl rfl hb61 rfl <| zn rfl rfl hb58 rfl <| zd ?_; exact zv (_ : Bool) hst ⟨rfl, rfl, rfl, trivial⟩
                      · refine zH rfl rfl rfl rfl rfl rfl rfl rfl hb61 <| zG rfl rfl rfl rfl rfl rfl hb61 <| zo rfl rfl rfl rfl hb58 <| zn rfl rfl hb61 rfl <| zn rfl rfl hb58 rfl <| zd ?_; exact zv (_ : Bool) hst ⟨rfl, rfl, rfl, trivial⟩
                  · have hb53p := hb53; (try simp only [dY, dF] at hb53p); refine zo rfl rfl rfl rfl hb53 <| zm rfl rfl <| zo rfl rfl rfl rfl hb53 <| z1 rfl (runs_eqI rfl rfl) <| zn rfl rfl hb53 rfl <| z1 rfl (runs_not rfl) <| zm rfl rfl <| zi (t := 58) rfl (fun hb58 => ?_) (fun hb58 => ?_)
                    · refine zH rfl rfl rfl rfl rfl rfl rfl rfl hb58 <| zu rfl rfl rfl rfl ?_; refine zu rfl rfl rfl rfl ?_; refine zu rfl rfl rfl rfl ?_; refine zu rfl rfl rfl rfl ?_; refine zu rfl rfl rfl rfl ?_; refine zf rfl rfl rfl rfl hb58 <| zt rfl rfl hb58 rfl <| zd ?_; exact zv (_ : Bool) hst ⟨rfl, rfl, rfl, trivial⟩
                    · have hb58p := hb58; (try simp only [dY, dF] at hb58p); refine zo rfl rfl rfl rfl hb58 <| zm rfl rfl <| zo rfl rfl rfl rfl hb58 <| z1 rfl (runs_eqI rfl rfl) <| zo rfl rfl rfl rfl hb58 <| zm rfl rfl <| zi (t := 61) rfl (fun hb61 => ?_) (fun hb61 => ?_)
                      · have hb61p := hb61; (try simp only [dY, dF] at hb61p)
                        have hk2 : k + 1 < s.toList.length := by
                          rcases Nat.lt_or_ge (k + 1) s.toList.length with h | h
                          · exact h
                          · exfalso
                            have e : s.toList.length - 1 = k := by omega
                            rw [e] at h25
                            apply h25.2
                            apply UInt8.toNat.inj
                            have : ((s.toList.getD ((k : Int)).toNat 0).toNat : Int) = 46 := by simpa using hb61
                            rw [Int.toNat_natCast] at this; have e46 : (46 : UInt8).toNat = 46 := rfl; omega
                        refine zo rfl rfl rfl rfl hb61 <| zm rfl rfl <| zo rfl rfl rfl rfl hb61 <| zm rfl rfl <| zo rfl rfl rfl rfl hb61 <| z1 rfl (runs_add rfl rfl (by omega)) ?_; refine zo rfl rfl rfl rfl hb61 <| z1 rfl (runs_indexL Tryz.underlying9 rfl rfl (by omega) (by omega)) ?_; refine zo rfl rfl rfl rfl hb61 <| z1 rfl (runs_eqI rfl rfl) <| zo rfl rfl rfl rfl hb58 <| zt rfl rfl hb61 rfl <| zn rfl rfl hb58 rfl <| zd ?_; exact zv (_ : Bool) hst ⟨rfl, rfl, rfl, trivial⟩
                      · refine zH rfl rfl rfl rfl rfl rfl rfl rfl hb61 <| zG rfl rfl rfl rfl rfl rfl hb61 <| zo rfl rfl rfl rfl hb58 <| zn rfl rfl hb61 rfl <| zn rfl rfl hb58 rfl <| zd ?_; exact zv (_ : Bool) hst ⟨rfl, rfl, rfl, trivial⟩
              · have hb44p := hb44; (try simp only [dY, dF] at hb44p); refine zG rfl rfl rfl rfl rfl rfl hb44 <| zo rfl rfl rfl rfl hb41 <| zn rfl rfl hb44 rfl <| zn rfl rfl hb41 rfl <| zm rfl rfl <| zo rfl rfl rfl rfl rfl <| zm rfl rfl <| zo rfl rfl rfl rfl rfl <| z1 rfl (runs_eqI rfl rfl) <| zn rfl rfl rfl rfl ?_; refine zm rfl rfl ?_; refine zi (t := 53) rfl (fun hb53 => ?_) (fun hb53 => ?_)
                · have hb53p := hb53; (try simp only [dY, dF] at hb53p); refine zG rfl rfl rfl rfl rfl rfl hb53 <| zt rfl rfl hb53 rfl <| z1 rfl (runs_not rfl) <| zm rfl rfl <| zi (t := 58) rfl (fun hb58 => ?_) (fun hb58 => ?_)
                  · refine zH rfl rfl rfl rfl rfl rfl rfl rfl hb58 <| zu rfl rfl rfl rfl ?_; refine zu rfl rfl rfl rfl ?_; refine zu rfl rfl rfl rfl ?_; refine zu rfl rfl rfl rfl ?_; refine zu rfl rfl rfl rfl ?_; refine zf rfl rfl rfl rfl hb58 <| zt rfl rfl hb58 rfl <| zd ?_; exact zv (_ : Bool) hst ⟨rfl, rfl, rfl, trivial⟩
                  · have hb58p := hb58; (try simp only [dY, dF] at hb58p); refine zo rfl rfl rfl rfl hb58 <| zm rfl rfl <| zo rfl rfl rfl rfl hb58 <| z1 rfl (runs_eqI rfl rfl) <| zo rfl rfl rfl rfl hb58 <| zm rfl rfl <| zi (t := 61) rfl (fun hb61 => ?_) (fun hb61 => ?_)
                    · have hb61p := hb61; (try simp only [dY, dF] at hb61p)
                      have hk2 : k + 1 < s.toList.length := by
                        rcases Nat.lt_or_ge (k + 1) s.toList.length with h | h
                        · exact h
                        · exfalso
                          have e : s.toList.length - 1 = k := by omega
                          rw [e] at h25
                          apply h25.2
                          apply UInt8.toNat.inj
                          have : ((s.toList.getD ((k : Int)).toNat 0).toNat : Int) = 46 := by simpa using hb61
                          rw [Int.toNat_natCast] at this; have e46 : (46 : UInt8).toNat = 46 := rfl; omega
                      refine zo rfl rfl rfl rfl hb61 <| zm rfl rfl <| zo rfl rfl rfl rfl hb61 <| zm rfl rfl <| zo rfl rfl rfl rfl hb61 <| z1 rfl (runs_add rfl rfl (by omega)) ?_; refine zo rfl rfl rfl rfl hb61 <| z1 rfl (runs_indexL Tryz.underlying9 rfl rfl (by omega) (by omega)) ?_; refine zo rfl rfl rfl rfl hb61 <| z1 rfl (runs_eqI rfl rfl) <| zo rfl rfl rfl rfl hb58 <| zt rfl rfl hb61 rfl <| zn rfl rfl hb58 rfl <| zd ?_; exact zv (_ : Bool) hst ⟨rfl, rfl, rfl, trivial⟩
                    · refine zH rfl rfl rfl rfl rfl rfl rfl rfl hb61 <| zG rfl rfl rfl rfl rfl rfl hb61 <| zo rfl rfl rfl rfl hb58 <| zn rfl rfl hb61 rfl <| zn rfl rfl hb58 rfl <| zd ?_; exact zv (_ : Bool) hst ⟨rfl, rfl, rfl, trivial⟩
                · have hb53p := hb53; (try simp only [dY, dF] at hb53p); refine zo rfl rfl rfl rfl hb53 <| zm rfl rfl <| zo rfl rfl rfl rfl hb53 <| z1 rfl (runs_eqI rfl rfl) <| zn rfl rfl hb53 rfl <| z1 rfl (runs_not rfl) <| zm rfl rfl <| zi (t := 58) rfl (fun hb58 => ?_) (fun hb58 => ?_)
                  · refine zH rfl rfl rfl rfl rfl rfl rfl rfl hb58 <| zu rfl rfl rfl rfl ?_; refine zu rfl rfl rfl rfl ?_; refine zu rfl rfl rfl rfl ?_; refine zu rfl rfl rfl rfl ?_; refine zu rfl rfl rfl rfl ?_; refine zf rfl rfl rfl rfl hb58 <| zt rfl rfl hb58 rfl <| zd ?_; exact zv (_ : Bool) hst ⟨rfl, rfl, rfl, trivial⟩
                  · have hb58p := hb58; (try simp only [dY, dF] at hb58p); refine zo rfl rfl rfl rfl hb58 <| zm rfl rfl <| zo rfl rfl rfl rfl hb58 <| z1 rfl (runs_eqI rfl rfl) <| zo rfl rfl rfl rfl hb58 <| zm rfl rfl <| zi (t := 61) rfl (fun hb61 => ?_) (fun hb61 => ?_)
                    · have hb61p := hb61; (try simp only [dY, dF] at hb61p)
                      have hk2 : k + 1 < s.toList.length := by
                        rcases Nat.lt_or_ge (k + 1) s.toList.length with h | h
                        · exact h
                        · exfalso
                          have e : s.toList.length - 1 = k := by omega
                          rw [e] at h25
                          apply h25.2
                          apply UInt8.toNat.inj
                          have : ((s.toList.getD ((k : Int)).toNat 0).toNat : Int) = 46 := by simpa using hb61
                          rw [Int.toNat_natCast] at this; have e46 : (46 : UInt8).toNat = 46 := rfl; omega
                      refine zo rfl rfl rfl rfl hb61 <| zm rfl rfl <| zo rfl rfl rfl rfl hb61 <| zm rfl rfl <| zo rfl rfl rfl rfl hb61 <| z1 rfl (runs_add rfl rfl (by omega)) ?_; refine zo rfl rfl rfl rfl hb61 <| z1 rfl (runs_indexL Tryz.underlying9 rfl rfl (by omega) (by omega)) ?_; refine zo rfl rfl rfl rfl hb61 <| z1 rfl (runs_eqI rfl rfl) <| zo rfl rfl rfl rfl hb58 <| zt rfl rfl hb61 rfl <| zn rfl rfl hb58 rfl <| zd ?_; exact zv (_ : Bool) hst ⟨rfl, rfl, rfl, trivial⟩
                    · refine zH rfl rfl rfl rfl rfl rfl rfl rfl hb61 <| zG rfl rfl rfl rfl rfl rfl hb61 <| zo rfl rfl rfl rfl hb58 <| zn rfl rfl hb61 rfl <| zn rfl rfl hb58 rfl <| zd ?_; exact zv (_ : Bool) hst ⟨rfl, rfl, rfl, trivial⟩
          · have hb37p := hb37; (try simp only [dY, dF] at hb37p); refine zG rfl rfl rfl rfl rfl rfl hb37 <| zn rfl rfl hb37 rfl <| zm rfl rfl <| zo rfl rfl rfl rfl rfl <| zm rfl rfl <| zo rfl rfl rfl rfl rfl <| z1 rfl (runs_geq rfl rfl) <| zo rfl rfl rfl rfl rfl <| zm rfl rfl <| zi (t := 44) rfl (fun hb44 => ?_) (fun hb44 => ?_)
            · have hb44p := hb44; (try simp only [dY, dF] at hb44p); refine zo rfl rfl rfl rfl hb44 <| zm rfl rfl <| zo rfl rfl rfl rfl hb44 <| z1 rfl (runs_leq rfl rfl) <| zo rfl rfl rfl rfl rfl <| zt rfl rfl hb44 rfl <| zn rfl rfl rfl rfl <| zm rfl rfl <| zi (t := 49) rfl (fun hb49 => ?_) (fun hb49 => ?_)
              · have hb49p := hb49; (try simp only [dY, dF] at hb49p); refine zG rfl rfl rfl rfl rfl rfl hb49 <| zt rfl rfl hb49 rfl <| zm rfl rfl <| zG rfl rfl rfl rfl rfl rfl rfl <| zt rfl rfl rfl rfl <| z1 rfl (runs_not rfl) <| zm rfl rfl <| zi (t := 58) rfl (fun hb58 => ?_) (fun hb58 => ?_)
                · refine zH rfl rfl rfl rfl rfl rfl rfl rfl hb58 <| zu rfl rfl rfl rfl ?_; refine zu rfl rfl rfl rfl ?_; refine zu rfl rfl rfl rfl ?_; refine zu rfl rfl rfl rfl ?_; refine zu rfl rfl rfl rfl ?_; refine zf rfl rfl rfl rfl hb58 <| zt rfl rfl hb58 rfl <| zd ?_; exact zv (_ : Bool) hst ⟨rfl, rfl, rfl, trivial⟩
                · have hb58p := hb58; (try simp only [dY, dF] at hb58p); refine zo rfl rfl rfl rfl hb58 <| zm rfl rfl <| zo rfl rfl rfl rfl hb58 <| z1 rfl (runs_eqI rfl rfl) <| zo rfl rfl rfl rfl hb58 <| zm rfl rfl <| zi (t := 61) rfl (fun hb61 => ?_) (fun hb61 => ?_)
                  · have hb61p := hb61; (try simp only [dY, dF] at hb61p)
                    have hk2 : k + 1 < s.toList.length := by
                      rcases Nat.lt_or_ge (k + 1) s.toList.length with h | h
                      · exact h
                      · exfalso
                        have e : s.toList.length - 1 = k := by omega
                        rw [e] at h25
                        apply h25.2
                        apply UInt8.toNat.inj
                        have : ((s.toList.getD ((k : Int)).toNat 0).toNat : Int) = 46 := by simpa using hb61
                        rw [Int.toNat_natCast] at this; have e46 : (46 : UInt8).toNat = 46 := rfl; omega
                    refine zo rfl rfl rfl rfl hb61 <| zm rfl rfl <| zo rfl rfl rfl rfl hb61 <| zm rfl rfl <| zo rfl rfl rfl rfl hb61 <| z1 rfl (runs_add rfl rfl (by omega)) ?_; refine zo rfl rfl rfl rfl hb61 <| z1 rfl (runs_indexL Tryz.underlying9 rfl rfl (by omega) (by omega)) ?_; refine zo rfl rfl rfl rfl hb61 <| z1 rfl (runs_eqI rfl rfl) <| zo rfl rfl rfl rfl hb58 <| zt rfl rfl hb61 rfl <| zn rfl rfl hb58 rfl <| zd ?_; exact zv (_ : Bool) hst ⟨rfl, rfl, rfl, trivial⟩
                  · refine zH rfl rfl rfl rfl rfl rfl rfl rfl hb61 <| zG rfl rfl rfl rfl rfl rfl hb61 <| zo rfl rfl rfl rfl hb58 <| zn rfl rfl hb61 rfl <| zn rfl rfl hb58 rfl <| zd ?_; exact zv (_ : Bool) hst ⟨rfl, rfl, rfl, trivial⟩
              · have hb49p := hb49; (try simp only [dY, dF] at hb49p); refine zo rfl rfl rfl rfl hb49 <| zm rfl rfl <| zo rfl rfl rfl rfl hb49 <| z1 rfl (runs_eqI rfl rfl) <| zn rfl rfl hb49 rfl <| zm rfl rfl <| zi (t := 53) rfl (fun hb53 => ?_) (fun hb53 => ?_)
                · have hb53p := hb53; (try simp only [dY, dF] at hb53p); refine zG rfl rfl rfl rfl rfl rfl hb53 <| zt rfl rfl hb53 rfl <| z1 rfl (runs_not rfl) <| zm rfl rfl <| zi (t := 58) rfl (fun hb58 => ?_) (fun hb58 => ?_)
                  · refine zH rfl rfl rfl rfl rfl rfl rfl rfl hb58 <| zu rfl rfl rfl rfl ?_; refine zu rfl rfl rfl rfl ?_; refine zu rfl rfl rfl rfl ?_; refine zu rfl rfl rfl rfl ?_; refine zu rfl rfl rfl rfl ?_; refine zf rfl rfl rfl rfl hb58 <| zt rfl rfl hb58 rfl <| zd ?_; exact zv (_ : Bool) hst ⟨rfl, rfl, rfl, trivial⟩
                  · have hb58p := hb58; (try simp only [dY, dF] at hb58p); refine zo rfl rfl rfl rfl hb58 <| zm rfl rfl <| zo rfl rfl rfl rfl hb58 <| z1 rfl (runs_eqI rfl rfl) <| zo rfl rfl rfl rfl hb58 <| zm rfl rfl <| zi (t := 61) rfl (fun hb61 => ?_) (fun hb61 => ?_)
                    · have hb61p := hb61; (try simp only [dY, dF] at hb61p)
                      have hk2 : k + 1 < s.toList.length := by
                        rcases Nat.lt_or_ge (k + 1) s.toList.length with h | h
                        · exact h
                        · exfalso
                          have e : s.toList.length - 1 = k := by omega
                          rw [e] at h25
                          apply h25.2
                          apply UInt8.toNat.inj
                          have : ((s.toList.getD ((k : Int)).toNat 0).toNat : Int) = 46 := by simpa using hb61
                          rw [Int.toNat_natCast] at this; have e46 : (46 : UInt8).toNat = 46 := rfl; omega
                      refine zo rfl rfl rfl rfl hb61 <| zm rfl rfl <| zo rfl rfl rfl rfl hb61 <| zm rfl rfl <| zo rfl rfl rfl rfl hb61 <| z1 rfl (runs_add rfl rfl (by omega)) ?_; refine zo rfl rfl rfl rfl hb61 <| z1 rfl (runs_indexL Tryz.underlying9 rfl rfl (by omega) (by omega)) ?_; refine zo rfl rfl rfl rfl hb61 <| z1 rfl (runs_eqI rfl rfl) <| zo rfl rfl rfl rfl hb58 <| zt rfl rfl hb61 rfl <| zn rfl rfl hb58 rfl <| zd ?_; exact zv (_ : Bool) hst ⟨rfl, rfl, rfl, trivial⟩
                    · refine zH rfl rfl rfl rfl rfl rfl rfl rfl hb61 <| zG rfl rfl rfl rfl rfl rfl hb61 <| zo rfl rfl rfl rfl hb58 <| zn rfl rfl hb61 rfl <| zn rfl rfl hb58 rfl <| zd ?_; exact zv (_ : Bool) hst ⟨rfl, rfl, rfl, trivial⟩
                · have hb53p := hb53; (try simp only [dY, dF] at hb53p); refine zo rfl rfl rfl rfl hb53 <| zm rfl rfl <| zo rfl rfl rfl rfl hb53 <| z1 rfl (runs_eqI rfl rfl) <| zn rfl rfl hb53 rfl <| z1 rfl (runs_not rfl) <| zm rfl rfl <| zi (t := 58) rfl (fun hb58 => ?_) (fun hb58 => ?_)
                  · refine zH rfl rfl rfl rfl rfl rfl rfl rfl hb58 <| zu rfl rfl rfl rfl ?_; refine zu rfl rfl rfl rfl ?_; refine zu rfl rfl rfl rfl ?_; refine zu rfl rfl rfl rfl ?_; refine zu rfl rfl rfl rfl ?_; refine zf rfl rfl rfl rfl hb58 <| zt rfl rfl hb58 rfl <| zd ?_; exact zv (_ : Bool) hst ⟨rfl, rfl, rfl, trivial⟩
                  · have hb58p := hb58; (try simp only [dY, dF] at hb58p); refine zo rfl rfl rfl rfl hb58 <| zm rfl rfl <| zo rfl rfl rfl rfl hb58 <| z1 rfl (runs_eqI rfl rfl) <| zo rfl rfl rfl rfl hb58 <| zm rfl rfl <| zi (t := 61) rfl (fun hb61 => ?_) (fun hb61 => ?_)
                    · have hb61p := hb61; (try simp only [dY, dF] at hb61p)
                      have hk2 : k + 1 < s.toList.length := by
                        rcases Nat.lt_or_ge (k + 1) s.toList.length with h | h
                        · exact h
                        · exfalso
                          have e : s.toList.length - 1 = k := by omega
                          rw [e] at h25
                          apply h25.2
                          apply UInt8.toNat.inj
                          have : ((s.toList.getD ((k : Int)).toNat 0).toNat : Int) = 46 := by simpa using hb61
                          rw [Int.toNat_natCast] at this; have e46 : (46 : UInt8).toNat = 46 := rfl; omega
                      refine zo rfl rfl rfl rfl hb61 <| zm rfl rfl <| zo rfl rfl rfl rfl hb61 <| zm rfl rfl <| zo rfl rfl rfl rfl hb61 <| z1 rfl (runs_add rfl rfl (by omega)) ?_; refine zo rfl rfl rfl rfl hb61 <| z1 rfl (runs_indexL Tryz.underlying9 rfl rfl (by omega) (by omega)) ?_; refine zo rfl rfl rfl rfl hb61 <| z1 rfl (runs_eqI rfl rfl) <| zo rfl rfl rfl rfl hb58 <| zt rfl rfl hb61 rfl <| zn rfl rfl hb58 rfl <| zd ?_; exact zv (_ : Bool) hst ⟨rfl, rfl, rfl, trivial⟩
                    · refine zH rfl rfl rfl rfl rfl rfl rfl rfl hb61 <| zG rfl rfl rfl rfl rfl rfl hb61 <| zo rfl rfl rfl rfl hb58 <| zn rfl rfl hb61 rfl <| zn rfl rfl hb58 rfl <| zd ?_; exact zv (_ : Bool) hst ⟨rfl, rfl, rfl, trivial⟩
            · have hb44p := hb44; (try simp only [dY, dF] at hb44p); refine zG rfl rfl rfl rfl rfl rfl hb44 <| zo rfl rfl rfl rfl rfl <| zn rfl rfl hb44 rfl <| zn rfl rfl rfl rfl <| zm rfl rfl <| zo rfl rfl rfl rfl rfl <| zm rfl rfl <| zo rfl rfl rfl rfl rfl <| z1 rfl (runs_eqI rfl rfl) <| zn rfl rfl rfl rfl ?_; refine zm rfl rfl ?_; refine zi (t := 53) rfl (fun hb53 => ?_) (fun hb53 => ?_)
              · have hb53p := hb53; (try simp only [dY, dF] at hb53p); refine zG rfl rfl rfl rfl rfl rfl hb53 <| zt rfl rfl hb53 rfl <| z1 rfl (runs_not rfl) <| zm rfl rfl <| zi (t := 58) rfl (fun hb58 => ?_) (fun hb58 => ?_)
                · refine zH rfl rfl rfl rfl rfl rfl rfl rfl hb58 <| zu rfl rfl rfl rfl ?_; refine zu rfl rfl rfl rfl ?_; refine zu rfl rfl rfl rfl ?_; refine zu rfl rfl rfl rfl ?_; refine zu rfl rfl rfl rfl ?_; refine zf rfl rfl rfl rfl hb58 <| zt rfl rfl hb58 rfl <| zd ?_; exact zv (_ : Bool) hst ⟨rfl, rfl, rfl, trivial⟩
                · have hb58p := hb58; (try simp only [dY, dF] at hb58p); refine zo rfl rfl rfl rfl hb58 <| zm rfl rfl <| zo rfl rfl rfl rfl hb58 <| z1 rfl (runs_eqI rfl rfl) <| zo rfl rfl rfl rfl hb58 <| zm rfl rfl <| zi (t := 61) rfl (fun hb61 => ?_) (fun hb61 => ?_)
                  · have hb61p := hb61; (try simp only [dY, dF] at hb61p)
                    have hk2 : k + 1 < s.toList.length := by
                      rcases Nat.lt_or_ge (k + 1) s.toList.length with h | h
                      · exact h
                      · exfalso
                        have e : s.toList.length - 1 = k := by omega
                        rw [e] at h25
                        apply h25.2
                        apply UInt8.toNat.inj
                        have : ((s.toList.getD ((k : Int)).toNat 0).toNat : Int) = 46 := by simpa using hb61
                        rw [Int.toNat_natCast] at this; have e46 : (46 : UInt8).toNat = 46 := rfl; omega
                    refine zo rfl rfl rfl rfl hb61 <| zm rfl rfl <| zo rfl rfl rfl rfl hb61 <| zm rfl rfl <| zo rfl rfl rfl rfl hb61 <| z1 rfl (runs_add rfl rfl (by omega)) ?_; refine zo rfl rfl rfl rfl hb61 <| z1 rfl (runs_indexL Tryz.underlying9 rfl rfl (by omega) (by omega)) ?_; refine zo rfl rfl rfl rfl hb61 <| z1 rfl (runs_eqI rfl rfl) <| zo rfl rfl rfl rfl hb58 <| zt rfl rfl hb61 rfl <| zn rfl rfl hb58 rfl <| zd ?_; exact zv (_ : Bool) hst ⟨rfl, rfl, rfl, trivial⟩
                  · refine zH rfl rfl rfl rfl rfl rfl rfl rfl hb61 <| zG rfl rfl rfl rfl rfl rfl hb61 <| zo rfl rfl rfl rfl hb58 <| zn rfl rfl hb61 rfl <| zn rfl rfl hb58 rfl <| zd ?_; exact zv (_ : Bool) hst ⟨rfl, rfl, rfl, trivial⟩
              · have hb53p := hb53; (try simp only [dY, dF] at hb53p); refine zo rfl rfl rfl rfl hb53 <| zm rfl rfl <| zo rfl rfl rfl rfl hb53 <| z1 rfl (runs_eqI rfl rfl) <| zn rfl rfl hb53 rfl <| z1 rfl (runs_not rfl) <| zm rfl rfl <| zi (t := 58) rfl (fun hb58 => ?_) (fun hb58 => ?_)
                · refine zH rfl rfl rfl rfl rfl rfl rfl rfl hb58 <| zu rfl rfl rfl rfl ?_; refine zu rfl rfl rfl rfl ?_; refine zu rfl rfl rfl rfl ?_; refine zu rfl rfl rfl rfl ?_; refine zu rfl rfl rfl rfl ?_; refine zf rfl rfl rfl rfl hb58 <| zt rfl rfl hb58 rfl <| zd ?_; exact zv (_ : Bool) hst ⟨rfl, rfl, rfl, trivial⟩
                · have hb58p := hb58; (try simp only [dY, dF] at hb58p); refine zo rfl rfl rfl rfl hb58 <| zm rfl rfl <| zo rfl rfl rfl rfl hb58 <| z1 rfl (runs_eqI rfl rfl) <| zo rfl rfl rfl rfl hb58 <| zm rfl rfl <| zi (t := 61) rfl (fun hb61 => ?_) (fun hb61 => ?_)
                  · have hb61p := hb61; (try simp only [dY, dF] at hb61p)
                    have hk2 : k + 1 < s.toList.length := by
                      rcases Nat.lt_or_ge (k + 1) s.toList.length with h | h
                      · exact h
                      · exfalso
                        have e : s.toList.length - 1 = k := by omega
                        rw [e] at h25
                        apply h25.2
                        apply UInt8.toNat.inj
                        have : ((s.toList.getD ((k : Int)).toNat 0).toNat : Int) = 46 := by simpa using hb61
                        rw [Int.toNat_natCast] at this; have e46 : (46 : UInt8).toNat = 46 := rfl; omega
                    refine zo rfl rfl rfl rfl hb61 <| zm rfl rfl <| zo rfl rfl rfl rfl hb61 <| zm rfl rfl <| zo rfl rfl rfl rfl hb61 <| z1 rfl (runs_add rfl rfl (by omega)) ?_; refine zo rfl rfl rfl rfl hb61 <| z1 rfl (runs_indexL Tryz.underlying9 rfl rfl (by omega) (by omega)) ?_; refine zo rfl rfl rfl rfl hb61 <| z1 rfl (runs_eqI rfl rfl) <| zo rfl rfl rfl rfl hb58 <| zt rfl rfl hb61 rfl <| zn rfl rfl hb58 rfl <| zd ?_; exact zv (_ : Bool) hst ⟨rfl, rfl, rfl, trivial⟩
                  · refine zH rfl rfl rfl rfl rfl rfl rfl rfl hb61 <| zG rfl rfl rfl rfl rfl rfl hb61 <| zo rfl rfl rfl rfl hb58 <| zn rfl rfl hb61 rfl <| zn rfl rfl hb58 rfl <| zd ?_; exact zv (_ : Bool) hst ⟨rfl, rfl, rfl, trivial⟩
        · clear hst; rintro bx w hst; refine za <| zb rfl (fun hc68 => ?_) (fun hc68 => ?_)
          · refine zR <| zS rfl rfl <| zM <| CW.ret <| AQ.block_ret <| zr <| zr <| AQ.block_ret <| zr <| z9 rfl rfl ?_; exact ⟨_, rfl, hst⟩
          · have hcb68 := hc68; (try simp only [dY, dF] at hc68); refine zj <| zh <| za <| zg <| zm rfl rfl <| z1 rfl (runs_add rfl rfl (by omega)) ?_; refine zS rfl rfl <| zd ?_; exact AQ.again (x := k) (k + 1) ⟨hst, by omega⟩ ⟨rfl, rfl, trivial⟩ (by omega)
      · refine CW.exit ?_; refine AQ.past_exit <| AQ.past_exit <| AQ.block_hit <| za <| zR <| zS rfl rfl <| zM <| CW.ret <| z9 rfl rfl ?_; exact ⟨_, rfl, hst⟩
set_option maxRecDepth 100000 in
set_option maxHeartbeats 1000000 in
theorem uown_spec {w0 w : World} {I : Imm} {L : Own} (hst : St w0 w I L) (s : ByteArray) :
    Calls Tryz.prog 95 #[.string s] w fun e w' => ∃ n, e = .returned (.int .i64 n) ∧ 0 ≤ n ∧ n ≤ 443 ∧ St w0 w' I L := by
  refine enter Tryz.func95 rfl (N := 5) rfl rfl ?_
  simp only [zA, zB, zC, zD, zE, Nat.reduceAdd]
  have hle := Imm.le.refl I; refine zR <| zS rfl rfl <| zM <| zk <| zR <| zm rfl rfl <| z1 rfl (runs_eqS rfl rfl) <| zM <| zb rfl (fun hc4 => ?_) (fun hc4 => ?_)
  · refine zR <| zS rfl rfl <| zM <| CW.ret <| zr <| z9 rfl rfl ?_; exact ⟨_, rfl, by decide, by decide, hst⟩
  · refine zj <| za <| zR <| zS rfl rfl <| zM <| CW.ret <| z9 rfl rfl ?_; exact ⟨_, rfl, by decide, by decide, hst⟩
set_option maxRecDepth 100000 in
set_option maxHeartbeats 1000000 in
theorem secure_spec {w0 w : World} {I : Imm} {L : Own} (hst : St w0 w I L) (sc ho : ByteArray) (po : Int) (pa qu : ByteArray) :
    Calls Tryz.prog 102 #[.agg #[.string sc, .string ho, .int .i64 po, .string pa, .string qu]] w fun e w' => ∃ b, e = .returned (.bool b) ∧ St w0 w' I L := by
  refine enter Tryz.func102 rfl (N := 11) rfl rfl ?_
  simp only [zA, zB, zC, zD, zE, Nat.reduceAdd]
  have hle := Imm.le.refl I; refine zR <| ze rfl (runs_box rfl hst) ?_; clear hst; rintro _ w ⟨b1, rfl, hst⟩; refine zS rfl rfl <| zN <| zp rfl rfl U111 rfl ti9 rfl <| zl 0 rfl sc9 rfl hst rfl rfl <| z1 rfl (runs_eqS rfl rfl) <| zm rfl rfl <| zi (t := 6) rfl (fun hb6 => ?_) (fun hb6 => ?_)
  · refine zH rfl rfl rfl rfl rfl rfl rfl rfl hb6 <| zt rfl rfl hb6 rfl <| zS rfl rfl <| zM <| CW.ret <| z9 rfl rfl ?_; exact ⟨_, rfl, hst.drop1⟩
  · refine zo rfl rfl rfl rfl hb6 <| zp rfl rfl U111 rfl ti9 rfl <| zo rfl rfl rfl rfl hb6 <| zl 0 rfl sc9 rfl hst rfl rfl <| zo rfl rfl rfl rfl hb6 <| z1 rfl (runs_eqS rfl rfl) <| zn rfl rfl hb6 rfl <| zS rfl rfl <| zM <| CW.ret ?_; refine z9 rfl rfl ?_; exact ⟨_, rfl, hst.drop1⟩
def originR (sc ho : ByteArray) (po : Int) : ByteArray := if po > 0 then sc ++ ⟨#[58, 47, 47]⟩ ++ ho ++ (⟨#[58]⟩ ++ strOf (digF 20 po.toNat)) else sc ++ ⟨#[58, 47, 47]⟩ ++ ho
def printR (sc ho : ByteArray) (po : Int) (pa qu : ByteArray) : ByteArray := originR sc ho po ++ pa ++ qu
structure USz (sc ho : ByteArray) (po : Int) (pa qu : ByteArray) : Prop where
  sc : sc.size ≤ 10000000000
  ho : ho.size ≤ 10000000000
  po : po ≤ 9223372036854775807
  pa : pa.size ≤ 10000000000
  qu : qu.size ≤ 10000000000
theorem digF_sz (n : Nat) : (strOf (digF 20 n)).size ≤ 20 := by rw [strOf_size]; exact digF_len 20 n
theorem originR_sz {sc ho : ByteArray} {po : Int} (h1 : sc.size ≤ 10000000000) (h2 : ho.size ≤ 10000000000) : (originR sc ho po).size ≤ 20000000030 := by
  unfold originR; have := digF_sz po.toNat
  split
  · rw [ByteArray.size_append, ByteArray.size_append, ByteArray.size_append, ByteArray.size_append]
    show sc.size + 3 + ho.size + (1 + _) ≤ _
    omega
  · rw [ByteArray.size_append, ByteArray.size_append]
    show sc.size + 3 + ho.size ≤ _
    omega
set_option maxRecDepth 100000 in
set_option maxHeartbeats 1000000 in
theorem origin_spec {w0 w : World} {I : Imm} {L : Own} (hst : St w0 w I L) (sc ho : ByteArray) (po : Int) (pa qu : ByteArray) (hz : USz sc ho po pa qu) :
    Calls Tryz.prog 103 #[.agg #[.string sc, .string ho, .int .i64 po, .string pa, .string qu]] w fun e w' => e = .returned (.string (originR sc ho po)) ∧ St w0 w' I L := by
  have hz1 := hz.sc; have hz2 := hz.ho; have hz3 := hz.po; refine enter Tryz.func103 rfl (N := 20) rfl rfl ?_
  simp only [zA, zB, zC, zD, zE, Nat.reduceAdd]
  have hle := Imm.le.refl I; refine zR <| ze rfl (runs_box rfl hst) ?_; clear hst; rintro _ w ⟨b1, rfl, hst⟩; refine zS rfl rfl <| zN <| zp rfl rfl U111 rfl ti9 rfl <| zl 0 rfl sc9 rfl hst rfl rfl <| z1 rfl (runs_addS rfl rfl (by show sc.size + 3 ≤ 9223372036854775807; omega)) ?_; refine zp rfl rfl U111 rfl ti9 rfl <| zl 0 rfl sc9 rfl hst rfl rfl <| z1 rfl (runs_addS rfl rfl (by rw [ByteArray.size_append]; show sc.size + 3 + ho.size ≤ 9223372036854775807; omega)) ?_; refine zS rfl rfl <| zM <| zk <| zR <| zp rfl rfl U111 rfl ti3 rfl <| zl 0 rfl sc3 rfl hst rfl rfl <| z1 rfl (runs_gtr rfl rfl) <| zM <| zb rfl (fun hc12 => ?_) (fun hc12 => ?_)
  · have hcb12 := hc12; (try simp only [dY, dF] at hc12)
    have h12 : po > 0 := by omega
    obtain ⟨m, hm⟩ : ∃ m : Nat, po = (m : Int) := ⟨po.toNat, by omega⟩; have hd : (strOf (digF (19 + 1) m)).size ≤ 20 := digF_sz m; refine zg <| zm rfl rfl <| zp rfl rfl U111 rfl ti3 rfl <| zl 0 rfl sc3 rfl hst rfl rfl ?_; subst hm; refine zK rfl call126 rfl rfl (digits_room 19 (by decide) m hst (by omega) (by omega)) ?_; clear hst; rintro e w ⟨rfl, hst⟩; refine ⟨_, rfl, ?_⟩; refine z1 rfl (runs_addS rfl rfl (by show 1 + _ ≤ 9223372036854775807; omega)) ?_; refine z1 rfl (runs_addS rfl rfl (by rw [ByteArray.size_append, ByteArray.size_append, ByteArray.size_append]; show sc.size + 3 + ho.size + (1 + _) ≤ 9223372036854775807; omega)) ?_; refine zS rfl rfl <| zN <| zm rfl rfl <| zS rfl rfl <| zM <| CW.ret <| z9 rfl rfl ?_; refine ⟨?_, hst.drop1⟩; unfold originR; rw [if_pos h12]
    rfl
  · have hcb12 := hc12; (try simp only [dY, dF] at hc12)
    have h12 : ¬ po > 0 := by omega
    refine zj <| za <| zR <| zm rfl rfl <| zS rfl rfl <| zM <| CW.ret <| z9 rfl rfl ?_; refine ⟨?_, hst.drop1⟩; unfold originR; rw [if_neg h12]
set_option maxRecDepth 100000 in
set_option maxHeartbeats 1000000 in
theorem sameorigin_spec {w0 w : World} {I : Imm} {L : Own} (hst : St w0 w I L) (sc ho : ByteArray) (po : Int) (pa qu : ByteArray) (hz : USz sc ho po pa qu) (sc2 ho2 : ByteArray) (po2 : Int) (pa2 qu2 : ByteArray) (hz2 : USz sc2 ho2 po2 pa2 qu2) :
    Calls Tryz.prog 141 #[.agg #[.string sc, .string ho, .int .i64 po, .string pa, .string qu], .agg #[.string sc2, .string ho2, .int .i64 po2, .string pa2, .string qu2]] w fun e w' => ∃ b, e = .returned (.bool b) ∧ St w0 w' I L := by
  refine enter Tryz.func141 rfl (N := 10) rfl rfl ?_
  simp only [zA, zB, zC, zD, zE, Nat.reduceAdd]
  have hle := Imm.le.refl I; refine zR <| ze rfl (runs_box rfl hst) ?_; clear hst; rintro _ w ⟨b1, rfl, hst⟩; refine ze rfl (runs_box rfl hst) ?_; clear hst; rintro _ w ⟨b2, rfl, hst⟩; refine zS rfl rfl <| zM <| zk ?_; refine CW.drawSt hst (.q 0 (.q 2 (.l 1 (.l 3 (.q 4 (.q 5 .nil)))))) follows (by kernel_rfl) (fun w hst => ?_); refine DRW.q rfl rfl (FSt.loadN (vs := [_, _, _, _, _]) ag111 ti111 rfl (k := 1) rfl rfl rfl) ?_; refine DRW.q rfl rfl (FSt.loadN (vs := [_, _, _, _, _]) ag111 ti111 rfl (k := 0) rfl rfl rfl) ?_; refine yC rfl rfl call103 rfl rfl (origin_spec hst sc ho po pa qu hz) ?_; clear hst; rintro e w ⟨rfl, hst⟩; refine ⟨_, rfl, FSt.ofA hst (Imm.le.refl _), ?_⟩; refine yC rfl rfl call103 rfl rfl (origin_spec hst sc2 ho2 po2 pa2 qu2 hz2) ?_; clear hst; rintro e w ⟨rfl, hst⟩; refine ⟨_, rfl, FSt.ofA hst (Imm.le.refl _), ?_⟩; refine DRW.q rfl rfl (fun w' hF => runs_eqS rfl rfl) ?_; refine yS rfl rfl rfl <| DRW.done <| za <| CW.ret <| z9 rfl rfl ?_; exact ⟨_, rfl, hst.drop1.drop1⟩
set_option maxRecDepth 100000 in
set_option maxHeartbeats 1000000 in
theorem uprint_spec {w0 w : World} {I : Imm} {L : Own} (hst : St w0 w I L) (sc ho : ByteArray) (po : Int) (pa qu : ByteArray) (hz : USz sc ho po pa qu) :
    Calls Tryz.prog 63 #[.agg #[.string sc, .string ho, .int .i64 po, .string pa, .string qu]] w fun e w' => e = .returned (.string (printR sc ho po pa qu)) ∧ St w0 w' I L := by
  have hz4 := hz.pa; have hz5 := hz.qu; have hos := originR_sz (po := po) hz.sc hz.ho; refine enter Tryz.func63 rfl (N := 11) rfl rfl ?_
  simp only [zA, zB, zC, zD, zE, Nat.reduceAdd]
  have hle := Imm.le.refl I; refine zR <| ze rfl (runs_box rfl hst) ?_; clear hst; rintro _ w ⟨b1, rfl, hst⟩; refine zS rfl rfl <| zM <| zk ?_; refine CW.drawSt hst (.q 0 (.q 2 (.q 3 (.q 5 (.q 6 (.l 1 (.q 4 (.q 7 (.q 8 .nil))))))))) follows (by kernel_rfl) (fun w hst => ?_); refine DRW.q rfl rfl (FSt.loadN (vs := [_, _, _, _, _]) ag111 ti111 rfl (k := 0) rfl rfl rfl) ?_; refine yp rfl rfl rfl U111 rfl ti9 rfl <| yl 0 rfl rfl sc9 rfl rfl rfl <| yp rfl rfl rfl U111 rfl ti9 rfl <| yl 0 rfl rfl sc9 rfl rfl rfl <| yC rfl rfl call103 rfl rfl (origin_spec hst sc ho po pa qu hz) ?_; clear hst; rintro e w ⟨rfl, hst⟩; refine ⟨_, rfl, FSt.ofA hst (Imm.le.refl _), ?_⟩; refine DRW.q rfl rfl (fun w' hF => runs_addS rfl rfl (by omega)) ?_; refine DRW.q rfl rfl (fun w' hF => runs_addS rfl rfl (by rw [ByteArray.size_append]; omega)) ?_; refine yS rfl rfl rfl <| DRW.done <| za <| CW.ret <| z9 rfl rfl ?_; exact ⟨rfl, hst.drop1⟩
end Go.Proofs.YtadgbifmiooikaaGreatX
