/- Parts of a proof, joined: walks through the program's functions and their laws, in the order in which they need each other. -/
import Derived.Test.YtadgbifmiooikaaGreatPSb
import Derived.Test.YtadgbifmiooikaaGreatPSi
namespace Go.Proofs.YtadgbifmiooikaaGreatX
set_option linter.unusedVariables false
set_option linter.unusedSimpArgs false
open Go Go.RowKit Go.Proofs
def needS (bss : List (List UInt8)) : Nat := (bss.map fun b => needN b.length).sum
def BOk (bss : List (List UInt8)) : Prop := bss.length ≤ 1000 ∧ ∀ b ∈ bss, b.length ≤ 100000
theorem BOk.at {bss : List (List UInt8)} (h : BOk bss) (k : Nat) : (bss.getD k []).length ≤ 100000 := by
  by_cases hk : k < bss.length
  · rw [List.getD_eq_getElem?_getD, List.getElem?_eq_getElem hk]; exact h.2 _ (List.getElem_mem hk)
  · rw [List.getD_eq_getElem?_getD, List.getElem?_eq_none (by omega)]; exact Nat.zero_le _
theorem needN_le {b : List UInt8} (h : b.length ≤ 100000) : needN b.length ≤ 5300 := by unfold needN; omega
theorem needS_take {bss : List (List UInt8)} {k : Nat} (hk : k < bss.length) : needS (bss.take (k + 1)) = needS (bss.take k) + needN (bss.getD k []).length := by
  unfold needS; rw [List.take_add_one, List.getElem?_eq_getElem hk, Option.toList_some, List.map_append, List.sum_append, List.getD_eq_getElem?_getD, List.getElem?_eq_getElem hk]
  simp
theorem needS_le {bss : List (List UInt8)} (h : BOk bss) : ∀ k, k ≤ bss.length → needS (bss.take k) ≤ 5300 * k
  | 0, _ => Nat.le_refl _
  | k + 1, hk => by
    rw [needS_take (by omega)]; have := needS_le h k (by omega); have := needN_le (h.at k); omega
def mayL (G : LG) (room : Int) (bss : List (List UInt8)) : Int :=
  if G.bad ≠ 0 then G.bad else if room < (needS bss : Nat) ∨ 16777215 < G.nx + (bss.length : Nat) - 1 then 5 else if (bss.any fun b => decide (255 < needN b.length)) = true then 1 else 0
theorem getD_mem {bss : List (List UInt8)} {k : Nat} (hk : k < bss.length) : bss.getD k [] ∈ bss := by
  rw [List.getD_eq_getElem?_getD, List.getElem?_eq_getElem hk]; exact List.getElem_mem hk
theorem all_any {bss : List (List UInt8)} (h : ∀ j, j < bss.length → needN (bss.getD j []).length ≤ 255) : (bss.any fun b => decide (255 < needN b.length)) = false := by
  rw [List.any_eq_false]; intro b hb; obtain ⟨j, hj, rfl⟩ := List.getElem_of_mem hb; have := h j hj; rw [List.getD_eq_getElem?_getD, List.getElem?_eq_getElem hj] at this
  simpa using this
set_option maxRecDepth 100000 in
set_option maxHeartbeats 1000000 in
theorem may_log {w0 w : World} {I : Imm} {L : Own} {d : Value} {lb : Nat} {G : LG} (hst : St w0 w I ((lb, .cells (logV d G).toArray 92) :: L)) {v : Value} {vs : List Value} {bss : List (List UInt8)} (hv : RdR I v vs bss) (hbs : BOk bss) (hn : 0 ≤ G.nx ∧ G.nx ≤ 16777216) (room : Int) :
    Calls Tryz.prog 78 #[.pointer (some ⟨lb, 0, none⟩), .int .i64 room, v] w fun e w' => e = .returned (.int .i64 (mayL G room bss)) ∧ St w0 w' I ((lb, .cells (logV d G).toArray 92) :: L) := by
  have hvl := hv.2.1; have hbl := hbs.1; refine enter Tryz.func78 rfl (N := 56) rfl rfl ?_
  simp only [zA, zB, zC, zD, zE, Nat.reduceAdd]
  have hle := Imm.le.refl I; refine zR <| zs rfl rfl <| zM <| CW.seq <| zR <| zm rfl rfl <| RW.op1 rfl (runs_nilCheck rfl) <| zp rfl rfl U92 rfl ti25 rfl <| zl 0 rfl sc25 rfl hst rfl rfl <| RW.op1 rfl (runs_neI rfl rfl) ?_; refine zM ?_; refine CW.cond rfl (fun hc16 => ?_) (fun hc16 => ?_)
  · have hcb16 := hc16; (try simp only [dT, dF] at hc16); refine zR <| zm rfl rfl <| RW.op1 rfl (runs_nilCheck rfl) <| zp rfl rfl U92 rfl ti25 rfl <| zl 0 rfl sc25 rfl hst rfl rfl <| zs rfl rfl <| zM <| CW.ret <| AQ.past_ret ?_; refine AQ.ret1 rfl rfl ?_; have hm : mayL G room bss = G.bad := if_pos (by simpa using hc16); rw [hm]; exact ⟨rfl, hst⟩
  · have hcb16 := hc16; (try simp only [dT, dF] at hc16)
    have hb0 : ¬ G.bad ≠ 0 := by simpa using hc16
    refine CW.skip <| AQ.next <| zR <| zs rfl rfl <| zM <| CW.seq <| zR <| zm rfl rfl <| RW.op1 rfl (RdL.len Tryz.underlying64 rfl hv.1) <| zm rfl rfl ?_; refine zM <| CW.block ?_; refine CW.loop Nat (fun k w => St w0 w I ((lb, .cells (logV d G).toArray 92) :: L) ∧ k ≤ vs.length) (fun k => [(0, .pointer (some ⟨lb, 0, none⟩)), (1, .int .i64 room), (2, v), (7, .int .i64 ((needS (bss.take k) : Nat) : Int)), (21, v), (22, .int .i64 (vs.length : Nat)), (23, .int .i64 (k : Int))]) (fun k => vs.length - k) ⟨0, ⟨hst, Nat.zero_le _⟩, ⟨rfl, rfl, rfl, rfl, rfl, rfl, rfl, trivial⟩⟩ ?_; clear hst; rintro k w ⟨hst, hk⟩; have hns := needS_le hbs k (by omega); refine zR <| RW.op1 rfl (runs_lss rfl rfl) <| zM <| CW.seq ?_; refine CW.cond rfl (fun hc24 => ?_) (fun hc24 => ?_)
    · have hcb24 := hc24; (try simp only [dT, dF] at hc24)
      have hk1 : k < vs.length := by omega
      have hn1 := needN_le (hbs.at k); have hnt := needS_take (bss := bss) (k := k) (by omega); refine CW.skip <| AQ.next <| CW.seq <| CW.block <| zR ?_; refine RW.op1 rfl (RdL.indexAddr Tryz.underlying64 ti52 (by decide) rfl rfl hv.1 (by omega)) ?_; refine RW.op1 rfl (runs_load1 sc52 rfl (hst.cell_imm (RdR.at hv (by omega) (by omega)))) ?_; refine zs rfl rfl <| zM <| CW.region <| zm rfl rfl <| zm rfl rfl ?_; refine RW.call rfl call112 rfl rfl (need_spec hst (hv.row (i := k) hk1) (by have := hbs.at k; omega)) ?_; clear hst; rintro e w ⟨rfl, hst⟩; refine ⟨_, rfl, ?_⟩; refine RW.op1 rfl (runs_add rfl rfl (by omega)) ?_; refine zs rfl rfl <| RW.done <| AQ.block_normal <| AQ.next <| CW.region ?_; refine RW.op1 rfl (runs_add rfl rfl (by omega)) ?_; refine zm rfl rfl <| RW.done ?_; exact AQ.again (x := k) (k + 1) ⟨hst, by omega⟩ ⟨rfl, rfl, rfl, by rw [hnt]; exact congrArg (fun x => some (Value.int .i64 x)) (by omega), rfl, rfl, rfl, trivial⟩ (by omega)
    · have hcb24 := hc24; (try simp only [dT, dF] at hc24); have hke : bss.take k = bss := List.take_of_length_le (by omega); rw [hke] at hns ⊢; refine CW.exit ?_; refine AQ.past_exit <| AQ.past_exit <| AQ.block_hit <| AQ.next <| CW.seq <| zR <| zm rfl rfl <| zm rfl rfl <| RW.op1 rfl (runs_gtr rfl rfl) <| zm rfl rfl ?_; refine RW.split (t := 35) rfl (fun hb35 => ?_) (fun hb35 => ?_)
      · have hb35p := hb35; (try simp only [dT, dF] at hb35p); refine zH rfl rfl rfl rfl rfl rfl rfl rfl hb35 <| zH rfl rfl rfl rfl rfl rfl rfl rfl hb35 <| zH rfl rfl rfl rfl rfl rfl rfl rfl hb35 <| zt rfl rfl hb35 rfl <| zM ?_; refine CW.cond_true rfl ?_; refine zR <| zs rfl rfl <| zM <| CW.ret <| AQ.past_ret ?_; refine AQ.ret1 rfl rfl ?_
        have hm : mayL G room bss = 5 := by unfold mayL; rw [if_neg hb0, if_pos (by omega)]
        rw [hm]; exact ⟨rfl, hst⟩
      · have hb35p := hb35; (try simp only [dT, dF] at hb35p); refine RW.on_guard rfl rfl rfl rfl hb35 <| zm rfl rfl <| RW.on_guard rfl rfl rfl rfl hb35 <| RW.op1 rfl (runs_nilCheck rfl) <| RW.on_guard rfl rfl rfl rfl hb35 <| zp rfl rfl U92 rfl ti3 rfl <| RW.on_guard rfl rfl rfl rfl hb35 <| zl 0 rfl sc3 rfl hst rfl rfl <| RW.on_guard rfl rfl rfl rfl hb35 <| zm rfl rfl ?_; refine RW.on_guard rfl rfl rfl rfl hb35 <| RW.op1 rfl (RdL.len Tryz.underlying64 rfl hv.1) <| RW.on_guard rfl rfl rfl rfl hb35 ?_; refine RW.op1 rfl (runs_add rfl rfl (by omega)) ?_; refine RW.on_guard rfl rfl rfl rfl hb35 ?_; refine RW.op1 rfl (runs_sub rfl rfl (by omega)) ?_; refine RW.on_guard rfl rfl rfl rfl hb35 <| RW.op1 rfl (runs_gtr rfl rfl) <| zn rfl rfl hb35 rfl <| zM ?_; refine CW.cond rfl (fun hc45 => ?_) (fun hc45 => ?_)
        · have hcb45 := hc45; (try simp only [dT, dF] at hc45); refine zR <| zs rfl rfl <| zM <| CW.ret <| AQ.past_ret ?_; refine AQ.ret1 rfl rfl ?_
          have hm : mayL G room bss = 5 := by unfold mayL; rw [if_neg hb0, if_pos (by omega)]
          rw [hm]; exact ⟨rfl, hst⟩
        · have hcb45 := hc45; (try simp only [dT, dF] at hc45)
          have hno : ¬ (room < (needS bss : Nat) ∨ 16777215 < G.nx + (bss.length : Nat) - 1) := by omega
          refine CW.skip <| AQ.next <| CW.seq <| zR <| zm rfl rfl <| RW.op1 rfl (RdL.len Tryz.underlying64 rfl hv.1) <| zm rfl rfl <| zM <| CW.block ?_; refine CW.loop Nat (fun k w => St w0 w I ((lb, .cells (logV d G).toArray 92) :: L) ∧ k ≤ vs.length ∧ ∀ j, j < k → needN (bss.getD j []).length ≤ 255) (fun k => [(0, .pointer (some ⟨lb, 0, none⟩)), (46, v), (47, .int .i64 (vs.length : Nat)), (48, .int .i64 (k : Int))]) (fun k => vs.length - k) ⟨0, ⟨hst, Nat.zero_le _, fun j h => absurd h (Nat.not_lt_zero _)⟩, ⟨rfl, rfl, rfl, rfl, trivial⟩⟩ ?_; clear hst; rintro q w ⟨hst, hk, hall⟩; refine zR <| RW.op1 rfl (runs_lss rfl rfl) <| zM <| CW.seq ?_; refine CW.cond rfl (fun hc49 => ?_) (fun hc49 => ?_)
          · have hcb49 := hc49; (try simp only [dT, dF] at hc49)
            have hk1 : q < vs.length := by omega
            have hn1 := needN_le (hbs.at q); refine CW.skip <| AQ.next <| CW.seq <| CW.block <| zR ?_; refine RW.op1 rfl (RdL.indexAddr Tryz.underlying64 ti52 (by decide) rfl rfl hv.1 (by omega)) ?_; refine RW.op1 rfl (runs_load1 sc52 rfl (hst.cell_imm (RdR.at hv (by omega) (by omega)))) ?_; refine zs rfl rfl <| zN <| zm rfl rfl ?_; refine RW.call rfl call112 rfl rfl (need_spec hst (hv.row (i := q) hk1) (by have := hbs.at q; omega)) ?_; clear hst; rintro e w ⟨rfl, hst⟩; refine ⟨_, rfl, ?_⟩; refine RW.op1 rfl (runs_gtr rfl rfl) <| zM ?_; refine CW.cond rfl (fun hc54 => ?_) (fun hc54 => ?_)
            · have hcb54 := hc54; (try simp only [dT, dF] at hc54); refine zR <| zs rfl rfl <| zM <| CW.ret <| AQ.block_ret <| AQ.past_ret <| AQ.past_ret <| AQ.block_ret <| AQ.past_ret ?_; refine AQ.ret1 rfl rfl ?_
              have hm : mayL G room bss = 1 := by
                unfold mayL; rw [if_neg hb0, if_neg hno, if_pos]; rw [List.any_eq_true]; exact ⟨_, getD_mem (k := q) (by omega), by simp only [decide_eq_true_eq]; omega⟩
              rw [hm]; exact ⟨rfl, hst⟩
            · have hcb54 := hc54; (try simp only [dT, dF] at hc54); refine CW.skip <| AQ.block_normal <| AQ.next <| CW.region ?_; refine RW.op1 rfl (runs_add rfl rfl (by omega)) ?_; refine zm rfl rfl <| RW.done ?_
              exact AQ.again (x := q) (q + 1) ⟨hst, by omega, fun j hj => by
                by_cases h : j < q
                · exact hall j h
                · obtain rfl : j = q := by omega
                  omega⟩ ⟨rfl, rfl, rfl, rfl, trivial⟩ (by omega)
          · have hcb49 := hc49; (try simp only [dT, dF] at hc49); refine CW.exit ?_; refine AQ.past_exit <| AQ.past_exit <| AQ.block_hit <| AQ.next <| zR <| zs rfl rfl <| zM <| CW.ret ?_; refine AQ.ret1 rfl rfl ?_
            have hm : mayL G room bss = 0 := by
              unfold mayL; rw [if_neg hb0, if_neg hno, all_any (fun j hj => hall j (by omega))]
              rfl
            rw [hm]; exact ⟨rfl, hst⟩
inductive WrR (e : Int) : DS → Int → Int → List (List UInt8) → DS → Int → Int → Prop
  | nil {S : DS} {at_ q : Int} : WrR e S at_ q [] (flushR S).1 at_ (flushR S).2
  | bad {S S' : DS} {at_ q next er : Int} {b : List UInt8} {bss : List (List UInt8)} : FwR S at_ e q b S' next er → er ≠ 0 → WrR e S at_ q (b :: bss) S' 0 er
  | step {S S1 S' : DS} {at_ q next a er : Int} {b : List UInt8} {bss : List (List UInt8)} : FwR S at_ e q b S1 next 0 → WrR e S1 next (q + 1) bss S' a er → WrR e S at_ q (b :: bss) S' a er
theorem fw_any {S S' : DS} {at_ e q next er : Int} {b : List UInt8} (h : FwR S at_ e q b S' next er) : S'.secs = S.secs ∧ S'.pend.length ≤ S.pend.length + 255 ∧ (er = 0 → 0 ≤ next ∧ next ≤ S.secs.length) := by
  replace h := h.out
  split at h
  · obtain ⟨rfl, rfl, rfl⟩ := h; exact ⟨rfl, by omega, fun h => by omega⟩
  · rename_i h1
    have hn : needN b.length ≤ 255 := by
      by_cases hn : 255 < needN b.length
      · exact absurd (.inr hn) h1
      · omega
    split at h
    · obtain ⟨rfl, rfl, rfl⟩ := h; exact ⟨rfl, by omega, fun h => by omega⟩
    · rcases h with ⟨_, rfl, rfl, rfl⟩ | ⟨k, hk, _, hne, rfl, rfl, rfl⟩
      · have := putTo_pend S at_ (secB e q b) (needN b.length); exact ⟨putTo_secs _ _ _ _, by omega, fun _ => by omega⟩
      · have := putTo_pend S at_ (secB e q b) (k + 1); exact ⟨putTo_secs _ _ _ _, by omega, fun h => absurd h hne⟩
theorem drop_getD {bss : List (List UInt8)} {k : Nat} (hk : k < bss.length) : bss.drop k = bss.getD k [] :: bss.drop (k + 1) := by
  rw [List.getD_eq_getElem?_getD, List.getElem?_eq_getElem hk]; exact List.drop_eq_getElem_cons hk
set_option maxRecDepth 100000 in
set_option maxHeartbeats 1000000 in
theorem lwrite_spec {w0 w : World} {I : Imm} {L Ld : Own} {d : Value} {S : DS} {lb : Nat} {G : LG} (hd : DiskO d S Ld) (hst : St w0 w I ((lb, .cells (logV d G).toArray 92) :: (Ld ++ L))) {v : Value} {vs : List Value} {bss : List (List UInt8)} (hv : RdR I v vs bss) (hbs : BOk bss) (hn : 0 ≤ G.nx ∧ G.nx ≤ 16777216) (at0 : Int) (ha : 0 ≤ at0 ∧ at0 ≤ 2000) (hpn : S.pend.length ≤ 600000) :
    Calls Tryz.prog 80 #[.pointer (some ⟨lb, 0, none⟩), .int .i64 at0, v] w fun r w' => ∃ I' Ld' S' a er, Imm.le I I' ∧ r = .returned (.tuple #[.int .i64 a, .int .i64 er]) ∧ St w0 w' I' ((lb, .cells (logV d G).toArray 92) :: (Ld' ++ L)) ∧ DiskO d S' Ld' ∧ WrR G.s.e S at0 G.nx bss S' a er := by
  have hvl := hv.2.1; have hbl := hbs.1
  have hok : DOk S := by obtain ⟨_, _, _, _, _, _, _, _, _, hok⟩ := hd; exact hok
  have hsl := hok.1; refine enter Tryz.func80 rfl (N := 52) rfl rfl ?_
  simp only [zA, zB, zC, zD, zE, Nat.reduceAdd]
  have hle := Imm.le.refl I; refine zR <| zs rfl rfl <| zs rfl rfl <| zM <| CW.seq <| zR <| zm rfl rfl <| RW.op1 rfl (RdL.len Tryz.underlying64 rfl hv.1) <| zm rfl rfl <| zM ?_; refine CW.block ?_
  refine CW.loop (Nat × DS × Int × Imm × Own) (fun x w => I.le x.2.2.2.1 ∧ St w0 w x.2.2.2.1 ((lb, .cells (logV d G).toArray 92) :: (x.2.2.2.2 ++ L)) ∧ DiskO d x.2.1 x.2.2.2.2 ∧ RdR x.2.2.2.1 v vs bss ∧ (x.1 ≤ vs.length ∧ x.2.1.pend.length ≤ S.pend.length + 255 * x.1 ∧ x.2.1.secs = S.secs ∧ 0 ≤ x.2.2.1 ∧ x.2.2.1 ≤ 2000) ∧ ∀ S' a er, WrR G.s.e x.2.1 x.2.2.1 (G.nx + (x.1 : Int)) (bss.drop x.1) S' a er → WrR G.s.e S at0 G.nx bss S' a er) (fun x => [(0, .pointer (some ⟨lb, 0, none⟩)), (1, .int .i64 x.2.2.1), (12, v), (13, .int .i64 (vs.length : Nat)), (14, .int .i64 (x.1 : Int))]) (fun x => vs.length - x.1) ⟨(0, S, at0, _, _), ⟨hle, hst, hd, hv, ⟨Nat.zero_le _, Nat.le_refl _, rfl, ha⟩, fun S' a er h => by
    rw [show G.nx + (((0 : Nat)) : Int) = G.nx by omega] at h
    exact h⟩, ⟨rfl, rfl, rfl, rfl, rfl, trivial⟩⟩ ?_
  clear hle hst hd hv; rintro ⟨k, S1, at1, I1, Ld1⟩ w ⟨hle, hst, hd, hv, ⟨hk, hp1, hs1, ha1⟩, hrec⟩; dsimp only at hle hst hd hv hk hp1 hs1 ha1 hrec ⊢; refine zR <| RW.op1 rfl (runs_lss rfl rfl) <| zM <| CW.seq ?_; refine CW.cond rfl (fun hc15 => ?_) (fun hc15 => ?_)
  · have hcb15 := hc15; (try simp only [dT, dF] at hc15)
    have hk1 : k < vs.length := by omega
    have hdr := drop_getD (bss := bss) (k := k) (by omega); refine CW.skip <| AQ.next <| CW.seq <| CW.block <| zR <| zm rfl rfl ?_; refine RW.op1 rfl (RdL.indexAddr Tryz.underlying64 ti52 (by decide) rfl rfl hv.1 (by omega)) ?_; refine RW.op1 rfl (runs_load1 sc52 rfl (hst.cell_imm (RdR.at hv (by omega) (by omega)))) ?_; refine zs rfl rfl <| zs rfl rfl <| zM <| CW.seq ?_; refine CW.draw (FSt w0 I1 ((lb, .cells (logV d G).toArray 92) :: L)) (.q 0 (.q 1 (.q 2 (.q 3 (.q 4 (.q 5 (.q 6 (.q 7 (.q 8 (.q 9 (.q 10 (.q 11 (.q 12 (.q 13 (.q 14 (.q 15 (.q 16 (.q 17 (.l 18 (.q 19 (.q 20 (.q 21 (.q 22 (.q 23 .nil)))))))))))))))))))))))) follows (by kernel_rfl) ⟨_, Imm.le.refl _, hst.draw.sub ((List.sublist_append_right _ _).cons_cons _)⟩ ?_; replace hst := hst.draw; refine ym rfl rfl rfl <| yc rfl rfl rfl <| yp rfl rfl rfl U92 rfl ti23 rfl <| yl 0 rfl rfl sc23 rfl rfl rfl <| ym rfl rfl rfl <| ym rfl rfl rfl <| yc rfl rfl rfl <| yp rfl rfl rfl U92 rfl ti88 rfl <| yp rfl rfl rfl U88 rfl ti3 rfl <| yl 0 rfl rfl sc3 rfl rfl rfl ?_; refine ym rfl rfl rfl <| yc rfl rfl rfl <| yp rfl rfl rfl U92 rfl ti3 rfl <| yl 0 rfl rfl sc3 rfl rfl rfl <| ym rfl rfl rfl ?_; refine DRW.q rfl rfl (fun w' hF => runs_add rfl rfl (by omega)) ?_; refine DRW.q rfl rfl (fun w' hF => runs_buildF (cells := [_, _]) bz124 rfl rfl rfl rfl rfl) ?_; refine ym rfl rfl rfl ?_; refine DRW.call rfl rfl call119 rfl rfl (fwrite_spec hd (hst.perm List.perm_middle.symm) at1 G.s.e (G.nx + (k : Int)) (by unfold i64ok; omega) (hv.row (i := k) hk1) (hbs.at k) (by omega)) ?_; clear hst; rintro e w ⟨I1, Ld2, S2, nx2, er2, hI1, rfl, hst, hd2, hfw⟩; replace hst := hst.perm List.perm_middle; have hfa := fw_any hfw; replace hv := hv.mono hI1; replace hle := hle.trans hI1; refine ⟨_, rfl, FSt.of hst hI1 ((List.sublist_append_right _ _).cons_cons _), ?_⟩; refine ym rfl rfl rfl ?_; refine DRW.q rfl rfl (fun w' hF => runs_extract rfl rfl) ?_; refine DRW.q rfl rfl (fun w' hF => runs_extract rfl rfl) ?_; refine ys rfl rfl rfl <| ys rfl rfl rfl <| DRW.done <| AQ.next <| CW.seq <| zR <| zm rfl rfl <| RW.op1 rfl (runs_neI rfl rfl) <| zM ?_; refine CW.cond rfl (fun hc42 => ?_) (fun hc42 => ?_)
    · have hcb42 := hc42; (try simp only [dT, dF] at hc42); refine zR <| zm rfl rfl <| zs rfl rfl <| zs rfl rfl <| zM <| CW.ret <| AQ.past_ret <| AQ.block_ret <| AQ.past_ret <| AQ.past_ret ?_; refine AQ.block_ret <| AQ.past_ret ?_; refine AQ.ret2 rfl rfl rfl ?_; exact ⟨_, Ld2, S2, 0, er2, hle, rfl, hst, hd2, hrec _ _ _ (by rw [hdr]; exact .bad hfw (by simpa using hc42))⟩
    · have hcb42 := hc42; (try simp only [dT, dF] at hc42)
      obtain rfl : er2 = 0 := by simpa using hc42
      have hfa2 := hfa.2.2 rfl; rw [hs1] at hfa hfa2; refine CW.skip <| AQ.next <| CW.region <| zm rfl rfl <| zs rfl rfl <| RW.done <| AQ.block_normal <| AQ.next <| CW.region ?_; refine RW.op1 rfl (runs_add rfl rfl (by omega)) ?_; refine zm rfl rfl <| RW.done ?_
      exact AQ.again (x := (k, S1, at1, I1, Ld1)) (k + 1, S2, nx2, _, Ld2) ⟨hle, hst, hd2, hv, ⟨by dsimp only; omega, by dsimp only; omega, hfa.1, by dsimp only; omega, by dsimp only; omega⟩, fun S' a er h => hrec _ _ _ (by
        rw [hdr]; refine .step hfw ?_; rw [show G.nx + (k : Int) + 1 = G.nx + (((k + 1 : Nat)) : Int) by omega]
        exact h)⟩ ⟨rfl, rfl, rfl, rfl, rfl, trivial⟩ (by dsimp only; omega)
  · have hcb15 := hc15; (try simp only [dT, dF] at hc15); have hde : bss.drop k = [] := List.drop_eq_nil_of_le (by omega); refine CW.exit ?_; refine AQ.past_exit <| AQ.past_exit <| AQ.block_hit <| AQ.next <| zR <| zm rfl rfl <| zm rfl rfl <| RW.op1 rfl (runs_nilCheck rfl) <| zp rfl rfl U92 rfl ti23 rfl <| zl 0 rfl sc23 rfl hst rfl rfl ?_; refine RW.call rfl call42 rfl rfl (flush_spec hd (hst.perm List.perm_middle.symm)) ?_; clear hst; rintro e w ⟨Ld3, rfl, hst, hd3⟩; replace hst := hst.perm List.perm_middle; refine ⟨_, rfl, ?_⟩; refine zs rfl rfl <| zs rfl rfl <| zM <| CW.ret ?_; refine AQ.ret2 rfl rfl rfl ?_; exact ⟨_, Ld3, _, at1, _, hle, rfl, hst, hd3, hrec _ _ _ (by rw [hde]; exact .nil)⟩
theorem flush_len : ∀ (ps : List (Int × List UInt8)) (s : List (List UInt8)), (ps.foldl (fun s p => s.set p.1.toNat p.2) s).length = s.length
  | [], s => rfl
  | p :: r, s => by
    rw [List.foldl_cons, flush_len r]; exact List.length_set
def roomR (G : LG) : Int := beginR G.s.h + 256 - G.at_
def LG.ill (G : LG) (er : Int) : LG := { G with bad := er }
inductive ApR (S : DS) (G : LG) (b : List UInt8) : DS → LG → Int → Prop
  | may : mayL G (roomR G) [b] ≠ 0 → ApR S G b S G (mayL G (roomR G) [b])
  | bad {S' : DS} {a er : Int} : mayL G (roomR G) [b] = 0 → WrR G.s.e S G.at_ G.nx [b] S' a er → er ≠ 0 → ApR S G b S' (G.ill er) er
  | ok {S' : DS} {a : Int} : mayL G (roomR G) [b] = 0 → WrR G.s.e S G.at_ G.nx [b] S' a 0 → ApR S G b S' (G.to a (G.nx + 1)) 0
def turnS (G : LG) : Slot := ⟨G.s.n + 1, G.s.e, 1 - G.s.h, G.nx, G.s.e⟩
inductive TuR (S : DS) (G : LG) (bss : List (List UInt8)) : DS → LG → Int → Prop
  | may : mayL G 256 bss ≠ 0 → TuR S G bss S G (mayL G 256 bss)
  | full : mayL G 256 bss = 0 → (16777215 < G.s.n + 1 ∨ 16777215 < G.nx) → TuR S G bss S G 5
  | wr {S' : DS} {a er : Int} : mayL G 256 bss = 0 → ¬ (16777215 < G.s.n + 1 ∨ 16777215 < G.nx) → WrR G.s.e S (beginR (1 - G.s.h)) G.nx bss S' a er → er ≠ 0 → TuR S G bss S' (G.ill er) er
  | st {S1 : DS} {a : Int} : mayL G 256 bss = 0 → ¬ (16777215 < G.s.n + 1 ∨ 16777215 < G.nx) → WrR G.s.e S (beginR (1 - G.s.h)) G.nx bss S1 a 0 → (storeR S1 (turnS G)).2 ≠ 0 → TuR S G bss (storeR S1 (turnS G)).1 (G.ill (storeR S1 (turnS G)).2) (storeR S1 (turnS G)).2
  | ok {S1 : DS} {a : Int} : mayL G 256 bss = 0 → ¬ (16777215 < G.s.n + 1 ∨ 16777215 < G.nx) → WrR G.s.e S (beginR (1 - G.s.h)) G.nx bss S1 a 0 → (storeR S1 (turnS G)).2 = 0 → TuR S G bss (storeR S1 (turnS G)).1 ⟨turnS G, a, G.nx + (bss.length : Nat), G.bad⟩ 0
theorem wr_pend {e : Int} {S S' : DS} {at_ q a er : Int} {bss : List (List UInt8)} (h : WrR e S at_ q bss S' a er) : S'.secs.length = S.secs.length ∧ S'.pend.length ≤ S.pend.length + 255 * bss.length := by
  induction h with
  | nil =>
    rename_i S _ _
    refine ⟨?_, by have := flushR_pend S; omega⟩; unfold flushR
    split
    · rfl
    · dsimp only; exact flush_len _ _
  | bad h _ =>
    have := fw_any h; exact ⟨by rw [this.1], by rw [List.length_cons]; omega⟩
  | step h _ ih =>
    have := fw_any h; exact ⟨by rw [ih.1, this.1], by rw [List.length_cons]; omega⟩
theorem perm_in3 {α : Type} (x y : α) (A B : List α) : (x :: y :: (A ++ B)).Perm (y :: (A ++ (x :: B))) := (List.Perm.swap _ _ _).trans (List.perm_middle.symm.cons _)
set_option maxRecDepth 100000 in
set_option maxHeartbeats 1000000 in
theorem append_log {w0 w : World} {I : Imm} {L Ld : Own} {d : Value} {S : DS} {lb : Nat} {G : LG} (hd : DiskO d S Ld) (hst : St w0 w I ((lb, .cells (logV d G).toArray 92) :: (Ld ++ L))) {vb : Value} {b : List UInt8} (hb : RdB I vb b) (hbl : b.length ≤ 100000) (hh : 0 ≤ G.s.h ∧ G.s.h ≤ 1) (ha : 0 ≤ G.at_ ∧ G.at_ ≤ 1000) (hn : 0 ≤ G.nx ∧ G.nx ≤ 16777216) (hpn : S.pend.length ≤ 600000) :
    Calls Tryz.prog 52 #[.pointer (some ⟨lb, 0, none⟩), vb] w fun e w' => ∃ I' Ld' S' G' er, Imm.le I I' ∧ e = .returned (.int .i64 er) ∧ St w0 w' I' ((lb, .cells (logV d G').toArray 92) :: (Ld' ++ L)) ∧ DiskO d S' Ld' ∧ ApR S G b S' G' er := by
  have hbo : BOk [b] := ⟨(by show 1 ≤ 1000; decide), by simpa using hbl⟩; refine enter Tryz.func52 rfl (N := 48) rfl rfl ?_
  simp only [zA, zB, zC, zD, zE, Nat.reduceAdd]
  have hle := Imm.le.refl I; refine zR <| zs rfl rfl <| zN <| zm rfl rfl ?_; refine RW.opE rfl (runs_lit1R (xs := [vb]) Tryz.underlying64 ti52 (by decide) rfl rfl rfl (by simpa using hb.one) hst) ?_; clear hst; rintro u1 w ⟨I1, hI1, hst, h1⟩; replace hb := hb.mono hI1; replace hle := hle.trans hI1; have hv : RdR _ u1 [vb] [b] := RdR.of_all h1 rfl ⟨hb, trivial⟩; refine zs rfl rfl <| zM <| CW.seq <| zR <| zm rfl rfl <| zm rfl rfl ?_; refine RW.call rfl call79 rfl rfl (room_spec hst hh ha) ?_; clear hst; rintro e w ⟨rfl, hst⟩; refine ⟨_, rfl, ?_⟩; refine zm rfl rfl ?_; refine RW.call rfl call78 rfl rfl (may_log hst hv hbo hn (roomR G)) ?_; clear hst; rintro e w ⟨rfl, hst⟩; refine ⟨_, rfl, ?_⟩; refine zs rfl rfl <| zN <| zm rfl rfl <| RW.op1 rfl (runs_neI rfl rfl) <| zM ?_; refine CW.cond rfl (fun hc17 => ?_) (fun hc17 => ?_)
  · have hcb17 := hc17; (try simp only [dT, dF] at hc17); refine zR <| zm rfl rfl <| zs rfl rfl <| zM <| CW.ret <| AQ.past_ret ?_; refine AQ.ret1 rfl rfl ?_; exact ⟨_, Ld, S, G, _, hle, rfl, hst, hd, .may (by simpa using hc17)⟩
  · have hcb17 := hc17; (try simp only [dT, dF] at hc17)
    have hm0 : mayL G (roomR G) [b] = 0 := by simpa using hc17
    refine CW.skip <| AQ.next <| zR <| zm rfl rfl <| zm rfl rfl <| RW.op1 rfl (runs_nilCheck rfl) <| zp rfl rfl U92 rfl ti3 rfl <| zl 0 rfl sc3 rfl hst rfl rfl <| zm rfl rfl ?_; refine RW.call rfl call80 rfl rfl (lwrite_spec hd hst hv hbo hn G.at_ (by omega) hpn) ?_; clear hst; rintro e w ⟨I4, Ld1, S1, wa, we, hI4, rfl, hst, hd1, hwr⟩; replace hb := hb.mono hI4; replace h1 := h1.mono hI4; replace hle := hle.trans hI4; refine ⟨_, rfl, ?_⟩; refine zm rfl rfl <| zx rfl rfl rfl <| zx rfl rfl rfl <| zs rfl rfl <| zs rfl rfl <| zM <| CW.seq <| zR <| zm rfl rfl <| RW.op1 rfl (runs_neI rfl rfl) ?_; refine zM ?_; refine CW.cond rfl (fun hc30 => ?_) (fun hc30 => ?_)
    · have hcb30 := hc30; (try simp only [dT, dF] at hc30); refine zR <| zm rfl rfl <| zm rfl rfl <| RW.op1 rfl (runs_nilCheck rfl) <| zp rfl rfl U92 rfl ti25 rfl ?_; refine zy 0 ti25 rfl rfl hst rfl rfl rfl ?_; clear hst; rintro w hst; (try simp only [sZ, sS] at hst); refine zN <| zm rfl rfl <| zs rfl rfl <| zM <| CW.ret <| AQ.past_ret ?_; refine AQ.ret1 rfl rfl ?_; exact ⟨_, Ld1, S1, G.ill we, we, hle, rfl, hst, hd1, .bad hm0 hwr (by simpa using hc30)⟩
    · have hcb30 := hc30; (try simp only [dT, dF] at hc30)
      obtain rfl : we = 0 := by simpa using hc30
      refine CW.skip <| AQ.next <| zR <| zm rfl rfl <| zm rfl rfl <| zm rfl rfl <| zm rfl rfl <| RW.op1 rfl (runs_nilCheck rfl) <| zp rfl rfl U92 rfl ti3 rfl <| zl 0 rfl sc3 rfl hst rfl rfl ?_; refine RW.op1 rfl (runs_add rfl rfl (by omega)) ?_; refine RW.op1 rfl (runs_nilCheck rfl) <| zp rfl rfl U92 rfl ti3 rfl ?_; refine zy 0 ti3 rfl rfl hst rfl rfl rfl ?_; clear hst; rintro w hst; (try simp only [sZ, sS] at hst); refine RW.op1 rfl (runs_nilCheck rfl) <| zp rfl rfl U92 rfl ti3 rfl ?_; refine zy 0 ti3 rfl rfl hst rfl rfl rfl ?_; clear hst; rintro w hst; (try simp only [sZ, sS] at hst); refine zN <| zs rfl rfl <| zM <| CW.ret ?_; refine AQ.ret1 rfl rfl ?_; exact ⟨_, Ld1, S1, G.to wa (G.nx + 1), 0, hle, rfl, hst, hd1, .ok hm0 hwr⟩
set_option maxRecDepth 100000 in
set_option maxHeartbeats 1000000 in
theorem turn_log {w0 w : World} {I : Imm} {L Ld : Own} {d : Value} {S : DS} {lb : Nat} {G : LG} (hd : DiskO d S Ld) (hst : St w0 w I ((lb, .cells (logV d G).toArray 92) :: (Ld ++ L))) {v : Value} {vs : List Value} {bss : List (List UInt8)} (hv : RdR I v vs bss) (hbs : BOk bss) (hh : 0 ≤ G.s.h ∧ G.s.h ≤ 1) (ha : 0 ≤ G.at_ ∧ G.at_ ≤ 1000) (hn : 0 ≤ G.nx ∧ G.nx ≤ 16777216) (hs : 0 ≤ G.s.n ∧ G.s.n ≤ 16777216) (hpn : S.pend.length ≤ 300000) :
    Calls Tryz.prog 82 #[.pointer (some ⟨lb, 0, none⟩), v] w fun e w' => ∃ I' Ld' S' G' er, Imm.le I I' ∧ e = .returned (.int .i64 er) ∧ St w0 w' I' ((lb, .cells (logV d G').toArray 92) :: (Ld' ++ L)) ∧ DiskO d S' Ld' ∧ TuR S G bss S' G' er := by
  have hbl := hbs.1; have hvl := hv.2.1; refine enter Tryz.func82 rfl (N := 91) rfl rfl ?_
  simp only [zA, zB, zC, zD, zE, Nat.reduceAdd]
  have hle := Imm.le.refl I; refine zR <| zs rfl rfl <| zN <| zm rfl rfl <| zm rfl rfl ?_; refine RW.call rfl call78 rfl rfl (may_log hst hv hbs hn 256) ?_; clear hst; rintro e w ⟨rfl, hst⟩; refine ⟨_, rfl, ?_⟩; refine zs rfl rfl <| zM <| CW.seq <| zR <| zm rfl rfl <| RW.op1 rfl (runs_neI rfl rfl) <| zM ?_; refine CW.cond rfl (fun hc12 => ?_) (fun hc12 => ?_)
  · have hcb12 := hc12; (try simp only [dT, dF] at hc12); refine zR <| zm rfl rfl <| zs rfl rfl <| zM <| CW.ret <| AQ.past_ret ?_; refine AQ.ret1 rfl rfl ?_; exact ⟨_, Ld, S, G, _, hle, rfl, hst, hd, .may (by simpa using hc12)⟩
  · have hcb12 := hc12; (try simp only [dT, dF] at hc12)
    have hm0 : mayL G 256 bss = 0 := by simpa using hc12
    refine CW.skip <| AQ.next <| CW.seq ?_; refine CW.drawSt hst (.q 0 (.q 1 (.q 2 (.q 3 (.q 4 (.q 5 (.q 6 (.q 7 (.q 8 (.q 9 (.q 10 (.q 11 (.q 12 (.q 13 (.q 14 (.q 15 (.q 16 (.q 17 (.q 18 (.q 19 (.q 20 (.q 21 (.q 22 (.q 23 (.q 24 (.q 25 (.q 26 (.l 27 (.l 28 .nil))))))))))))))))))))))))))))) follows (by kernel_rfl) (fun w hst => ?_); refine ym rfl rfl rfl <| yc rfl rfl rfl <| yp rfl rfl rfl U92 rfl ti88 rfl <| yp rfl rfl rfl U88 rfl ti3 rfl <| yl 0 rfl rfl sc3 rfl rfl rfl ?_; refine DRW.q rfl rfl (fun w' hF => runs_add rfl rfl (by omega)) ?_; refine ym rfl rfl rfl <| yc rfl rfl rfl <| yp rfl rfl rfl U92 rfl ti88 rfl <| yp rfl rfl rfl U88 rfl ti3 rfl <| yl 0 rfl rfl sc3 rfl rfl rfl <| ym rfl rfl rfl <| yc rfl rfl rfl <| yp rfl rfl rfl U92 rfl ti88 rfl <| yp rfl rfl rfl U88 rfl ti3 rfl <| yl 0 rfl rfl sc3 rfl rfl rfl ?_; refine DRW.q rfl rfl (fun w' hF => runs_sub rfl rfl (by omega)) ?_; refine ym rfl rfl rfl <| yc rfl rfl rfl <| yp rfl rfl rfl U92 rfl ti3 rfl <| yl 0 rfl rfl sc3 rfl rfl rfl <| ym rfl rfl rfl <| yc rfl rfl rfl <| yp rfl rfl rfl U92 rfl ti88 rfl <| yp rfl rfl rfl U88 rfl ti3 rfl <| yl 0 rfl rfl sc3 rfl rfl rfl ?_; refine DRW.q rfl rfl (fun w' hF => runs_buildF (cells := [_, _, _, _, _]) bz88 rfl rfl rfl rfl rfl) ?_; refine DRW.opE rfl rfl (runs_alloc ti88 hst) ?_; clear hst; rintro _ w ⟨b2, rfl, hst⟩; refine ⟨FSt.ofA hst (Imm.le.refl _), ?_⟩; refine DRW.opE0 rfl (runs_storeW ti88 rfl rfl hst (k := 0) rfl rfl rfl (NoFz.zero _) rfl) ?_; clear hst; rintro w hst; (try simp only [sZ, sS] at hst); refine ⟨FSt.ofA hst (Imm.le.refl _), ?_⟩; refine DRW.done <| AQ.next <| CW.seq <| zR <| zp rfl rfl U88 rfl ti3 rfl <| zl 0 rfl sc3 rfl hst rfl rfl <| RW.op1 rfl (runs_gtr rfl rfl) <| zm rfl rfl ?_; refine RW.split (t := 44) rfl (fun hb44 => ?_) (fun hb44 => ?_)
    · have hb44p := hb44; (try simp only [dT, dF] at hb44p); refine zH rfl rfl rfl rfl rfl rfl rfl rfl hb44 <| zt rfl rfl hb44 rfl <| zM ?_; refine CW.cond_true rfl ?_; refine zR <| zs rfl rfl <| zM <| CW.ret <| AQ.past_ret ?_; refine AQ.ret1 rfl rfl ?_; exact ⟨_, Ld, S, G, 5, hle, rfl, hst.drop1, hd, .full hm0 (by omega)⟩
    · have hb44p := hb44; (try simp only [dT, dF] at hb44p); refine RW.on_guard rfl rfl rfl rfl hb44 <| zp rfl rfl U88 rfl ti3 rfl <| RW.on_guard rfl rfl rfl rfl hb44 <| zl 0 rfl sc3 rfl hst rfl rfl <| RW.on_guard rfl rfl rfl rfl hb44 <| RW.op1 rfl (runs_gtr rfl rfl) <| zn rfl rfl hb44 rfl <| zM ?_; refine CW.cond rfl (fun hc48 => ?_) (fun hc48 => ?_)
      · have hcb48 := hc48; (try simp only [dT, dF] at hc48); refine zR <| zs rfl rfl <| zM <| CW.ret <| AQ.past_ret ?_; refine AQ.ret1 rfl rfl ?_; exact ⟨_, Ld, S, G, 5, hle, rfl, hst.drop1, hd, .full hm0 (by omega)⟩
      · have hcb48 := hc48; (try simp only [dT, dF] at hc48)
        have hno : ¬ (16777215 < G.s.n + 1 ∨ 16777215 < G.nx) := by omega
        have hbe : beginR (1 - G.s.h) = 2 + (1 - G.s.h) * 256 := rfl; refine CW.skip <| AQ.next <| zR <| zm rfl rfl <| zp rfl rfl U88 rfl ti3 rfl <| zl 0 rfl sc3 rfl hst rfl rfl ?_; refine RW.call rfl call45 rfl rfl (begin_spec hst (1 - G.s.h) (by omega)) ?_; clear hst; rintro e w ⟨rfl, hst⟩; refine ⟨_, rfl, ?_⟩; refine zm rfl rfl ?_; refine RW.call rfl call80 rfl rfl (lwrite_spec hd (hst.perm (perm_in3 _ _ Ld L)) hv hbs hn (beginR (1 - G.s.h)) (by omega) (by omega)) ?_; clear hst; rintro e w ⟨I5, Ld1, S1, wa, we, hI5, rfl, hst, hd1, hwr⟩; replace hst := hst.perm (perm_in3 _ _ Ld1 L).symm; have hwp := wr_pend hwr; replace hv := hv.mono hI5; replace hle := hle.trans hI5; refine ⟨_, rfl, ?_⟩; refine zm rfl rfl <| zx rfl rfl rfl <| zx rfl rfl rfl <| zs rfl rfl <| zs rfl rfl <| zM <| CW.seq <| zR <| zm rfl rfl <| RW.op1 rfl (runs_eqI rfl rfl) ?_; refine zM ?_; refine CW.cond rfl (fun hc59 => ?_) (fun hc59 => ?_)
        · have hcb59 := hc59; (try simp only [dT, dF] at hc59); obtain rfl : we = 0 := hc59; refine CW.draw (FSt w0 I5 ((b2, .cells (slotV (turnS G)).toArray 88) :: (lb, .cells (logV d G).toArray 92) :: L)) (.q 0 (.q 1 (.q 2 (.q 3 (.q 4 (.l 5 (.q 6 .nil))))))) follows (by kernel_rfl) ⟨_, Imm.le.refl _, hst.draw.sub (((List.sublist_append_right _ _).cons_cons _).cons_cons _)⟩ ?_; replace hst := hst.draw; refine ym rfl rfl rfl <| yc rfl rfl rfl <| yp rfl rfl rfl U92 rfl ti23 rfl <| yl 1 rfl rfl sc23 rfl rfl rfl ?_; refine DRW.q rfl rfl (FSt.loadN (vs := [_, _, _, _, _]) ag88 ti88 rfl (k := 0) rfl rfl rfl) ?_; refine DRW.call rfl rfl call43 rfl rfl (store_spec hd1 (hst.perm (perm_two2 _ _ Ld1 L)) (turnS G) (by unfold i64ok turnS; dsimp only; omega) (by omega)) ?_; clear hst; rintro e w ⟨I6, Ld2, hI6, rfl, hst, hd2⟩; replace hst := hst.perm (perm_two2 _ _ Ld2 L).symm; replace hv := hv.mono hI6; replace hle := hle.trans hI6; refine ⟨_, rfl, FSt.of hst hI6 (((List.sublist_append_right _ _).cons_cons _).cons_cons _), ?_⟩; refine ys rfl rfl rfl <| DRW.done <| AQ.next <| CW.seq <| zR <| zm rfl rfl <| RW.op1 rfl (runs_neI rfl rfl) <| zM ?_; refine CW.cond rfl (fun hc67 => ?_) (fun hc67 => ?_)
          · have hcb67 := hc67; (try simp only [dT, dF] at hc67); refine zR <| zm rfl rfl <| zm rfl rfl <| RW.op1 rfl (runs_nilCheck rfl) <| zp rfl rfl U92 rfl ti25 rfl ?_; refine zy 1 ti25 rfl rfl hst rfl rfl rfl ?_; clear hst; rintro w hst; (try simp only [sZ, sS] at hst); refine zN <| zm rfl rfl <| zs rfl rfl <| zM <| CW.ret <| AQ.past_ret ?_; refine AQ.ret1 rfl rfl ?_; exact ⟨_, Ld2, _, G.ill (storeR S1 (turnS G)).2, _, hle, rfl, hst.drop1, hd2, .st hm0 hno hwr (by simpa using hc67)⟩
          · have hcb67 := hc67; (try simp only [dT, dF] at hc67)
            have hz2 : (storeR S1 (turnS G)).2 = 0 := by simpa using hc67
            refine CW.skip <| AQ.next <| CW.seq ?_; refine CW.draw (FSt w0 I6 ((b2, .cells (slotV (turnS G)).toArray 88) :: (Ld2 ++ L))) (.q 0 (.q 1 (.q 2 (.q 3 (.q 4 (.q 5 (.q 6 (.q 7 (.q 9 (.q 10 (.l 8 (.q 11 (.q 12 (.q 13 (.l 14 (.q 15 (.q 16 (.l 17 (.q 18 (.q 19 (.l 20 .nil))))))))))))))))))))) follows (by kernel_rfl) ⟨_, Imm.le.refl _, hst.draw.sub ((List.sublist_cons_self _ _).cons_cons _)⟩ ?_; replace hst := hst.draw; refine ym rfl rfl rfl <| ym rfl rfl rfl <| ym rfl rfl rfl ?_; refine DRW.q rfl rfl (FSt.loadN (vs := [_, _, _, _, _]) ag88 ti88 rfl (k := 0) rfl rfl rfl) ?_; refine ym rfl rfl rfl <| ym rfl rfl rfl <| yc rfl rfl rfl <| yp rfl rfl rfl U92 rfl ti3 rfl <| ym rfl rfl rfl ?_; refine DRW.q rfl rfl (fun w' hF => RdL.len Tryz.underlying64 rfl hv.1) ?_; refine DRW.op1 rfl rfl (runs_load1 sc3 rfl (hst.cell_own (k := 1) rfl rfl)) (FSt.of hst (Imm.le.refl _) ((List.sublist_cons_self _ _).cons_cons _)) ?_; refine DRW.q rfl rfl (fun w' hF => runs_add rfl rfl (by omega)) ?_; refine yc rfl rfl rfl <| yp rfl rfl rfl U92 rfl ti88 rfl ?_; refine DRW.opE0 rfl (runs_storeP ti88 rfl rfl hst (k := 1) rfl rfl rfl (NoFz.zero _) rfl) ?_; clear hst; rintro w hst; (try simp only [sZ, sS] at hst); refine ⟨FSt.of hst (Imm.le.refl _) ((List.sublist_cons_self _ _).cons_cons _), ?_⟩; refine yc rfl rfl rfl <| yp rfl rfl rfl U92 rfl ti3 rfl ?_; refine DRW.opE0 rfl (runs_store1P ti3 rfl rfl hst (k := 1) rfl rfl (NoFz.zero _) rfl) ?_; clear hst; rintro w hst; (try simp only [sZ, sS] at hst); refine ⟨FSt.of hst (Imm.le.refl _) ((List.sublist_cons_self _ _).cons_cons _), ?_⟩; refine yc rfl rfl rfl <| yp rfl rfl rfl U92 rfl ti3 rfl ?_; refine DRW.opE0 rfl (runs_store1P ti3 rfl rfl hst (k := 1) rfl rfl (NoFz.zero _) rfl) ?_; clear hst; rintro w hst; (try simp only [sZ, sS] at hst); refine ⟨FSt.of hst (Imm.le.refl _) ((List.sublist_cons_self _ _).cons_cons _), ?_⟩; refine DRW.done <| AQ.next <| zR <| zs rfl rfl <| zM <| CW.ret ?_; refine AQ.ret1 rfl rfl ?_; exact ⟨_, Ld2, _, ⟨turnS G, wa, G.nx + (vs.length : Nat), G.bad⟩, 0, hle, rfl, hst.drop1, hd2, by rw [hvl]; exact .ok hm0 hno hwr hz2⟩
        · have hcb59 := hc59; (try simp only [dT, dF] at hc59); refine CW.skip <| AQ.next <| CW.seq <| zR <| zm rfl rfl <| RW.op1 rfl (runs_neI rfl rfl) <| zM ?_; refine CW.cond rfl (fun hc => ?_) (fun hc => absurd hc (by simpa using hc59)); refine zR <| zm rfl rfl <| zm rfl rfl <| RW.op1 rfl (runs_nilCheck rfl) <| zp rfl rfl U92 rfl ti25 rfl ?_; refine zy 1 ti25 rfl rfl hst rfl rfl rfl ?_; clear hst; rintro w hst; (try simp only [sZ, sS] at hst); refine zN <| zm rfl rfl <| zs rfl rfl <| zM <| CW.ret <| AQ.past_ret ?_; refine AQ.ret1 rfl rfl ?_; exact ⟨_, Ld1, _, G.ill we, _, hle, rfl, hst.drop1, hd1, .wr hm0 hno hwr (by simpa using hc59)⟩
def zeroB : List UInt8 := List.replicate 32 0
def zput (S : DS) (k : Nat) : DS := putTo S 0 (fun _ => zeroB) k
def zputE (S : DS) (k : Nat) : Int := putE S 0 (fun _ => zeroB) k
def slot1 : Slot := ⟨1, 1, 0, 1, 1⟩
inductive FmR (S : DS) : DS → Int → Prop
  | len : (S.secs.length : Int) ≠ 514 → FmR S S 1
  | wr {k : Nat} : (S.secs.length : Int) = 514 → k < 514 → (∀ j, j < k → zputE S j = 0) → zputE S k ≠ 0 → FmR S (zput S (k + 1)) (zputE S k)
  | fl : (S.secs.length : Int) = 514 → (∀ j, j < 514 → zputE S j = 0) → (flushR (zput S 514)).2 ≠ 0 → FmR S (flushR (zput S 514)).1 (flushR (zput S 514)).2
  | st : (S.secs.length : Int) = 514 → (∀ j, j < 514 → zputE S j = 0) → (flushR (zput S 514)).2 = 0 → FmR S (storeR (flushR (zput S 514)).1 slot1).1 (storeR (flushR (zput S 514)).1 slot1).2
set_option maxRecDepth 100000 in
set_option maxHeartbeats 1000000 in
theorem format_log {w0 w : World} {I : Imm} {L Ld : Own} {d : Value} {S : DS} (hd : DiskO d S Ld) (hst : St w0 w I (Ld ++ L)) (hpn : S.pend.length ≤ 600000) :
    Calls Tryz.prog 26 #[d] w fun e w' => ∃ I' Ld' S' er, Imm.le I I' ∧ e = .returned (.int .i64 er) ∧ St w0 w' I' (Ld' ++ L) ∧ DiskO d S' Ld' ∧ FmR S S' er := by
  refine enter Tryz.func26 rfl (N := 30) rfl rfl ?_
  simp only [zA, zB, zC, zD, zE, Nat.reduceAdd]
  have hle := Imm.le.refl I; refine zR <| zs rfl rfl <| zM <| CW.seq <| zR <| zm rfl rfl ?_; refine RW.call rfl call39 rfl rfl (fits_spec hd hst) ?_; clear hst; rintro e w ⟨rfl, hst⟩; refine ⟨_, rfl, ?_⟩; refine RW.op1 rfl (runs_not rfl) <| zM ?_; refine CW.cond rfl (fun hc8 => ?_) (fun hc8 => ?_)
  · have hcb8 := hc8; (try simp only [dT, dF] at hc8); refine zR <| zs rfl rfl <| zM <| CW.ret <| AQ.past_ret ?_; refine AQ.ret1 rfl rfl ?_; exact ⟨_, Ld, S, 1, hle, rfl, hst, hd, .len (by simpa using hc8)⟩
  · have hcb8 := hc8; (try simp only [dT, dF] at hc8)
    have hlen : (S.secs.length : Int) = 514 := by simpa using hc8
    refine CW.skip <| AQ.next <| CW.seq <| zR <| zm rfl rfl ?_; refine RW.call rfl call40 rfl rfl (len_spec hd hst) ?_; clear hst; rintro e w ⟨rfl, hst⟩; rw [hlen]; refine ⟨_, rfl, ?_⟩; refine zm rfl rfl <| zM <| CW.block ?_; refine CW.loop (Nat × Imm × Own) (fun x w => I.le x.2.1 ∧ St w0 w x.2.1 (x.2.2 ++ L) ∧ DiskO d (zput S x.1) x.2.2 ∧ x.1 ≤ 514 ∧ ∀ j, j < x.1 → zputE S j = 0) (fun x => [(0, d), (10, .int .i64 514), (11, .int .i64 (x.1 : Int))]) (fun x => 514 - x.1) ⟨(0, _, _), ⟨hle, hst, hd, Nat.zero_le _, fun j h => absurd h (Nat.not_lt_zero _)⟩, ⟨rfl, rfl, rfl, trivial⟩⟩ ?_; clear hle hst hd; rintro ⟨k, I1, Ld1⟩ w ⟨hle, hst, hd, hk, hz⟩; dsimp only at hle hst hd hk hz ⊢; refine zR <| RW.op1 rfl (runs_lss rfl rfl) <| zM <| CW.seq ?_; refine CW.cond rfl (fun hc12 => ?_) (fun hc12 => ?_)
    · have hcb12 := hc12; (try simp only [dT, dF] at hc12)
      have hk1 : k < 514 := by omega
      have hpz := putTo_pend S 0 (fun _ => zeroB) k; refine CW.skip <| AQ.next <| CW.seq <| CW.block <| zR <| zm rfl rfl <| zs rfl rfl <| zN <| zm rfl rfl <| zm rfl rfl ?_; refine RW.opE rfl (runs_makeSlice (n := 32) Tryz.underlying52 ti5 rfl hst (by omega) (by unfold maxLen; omega)) ?_; clear hst; rintro _ w ⟨b3, rfl, hst⟩; obtain ⟨IZ, hIZ, hstn, hZ⟩ := RdB.of_block (e := 5) (b := b3) (n := 32) (bs := zeroB) rfl (by rw [made_b8] at hst; exact hst) (by unfold maxLen; omega); clear hst; have hst := hstn; clear hstn; replace hle := hle.trans hIZ; refine RW.call rfl call41 rfl rfl (write_spec hd hst (k : Int) hZ (by show (putTo S 0 (fun _ => zeroB) k).pend.length ≤ _; omega)) ?_; clear hst; rintro e w ⟨I4, Ld2, hI4, rfl, hst, hd2⟩
      have hze : zputE S k = (writeR (zput S k) (k : Int) zeroB).2 := by unfold zputE putE zput; rw [Int.zero_add]
      have hzs : zput S (k + 1) = (writeR (zput S k) (k : Int) zeroB).1 := by show (writeR _ (0 + (k : Int)) _).1 = _; rw [Int.zero_add]; rfl
      rw [← hzs] at hd2; rw [← hze]; replace hle := hle.trans hI4; refine ⟨_, rfl, ?_⟩; refine zs rfl rfl <| zN <| zm rfl rfl <| RW.op1 rfl (runs_neI rfl rfl) <| zM ?_; refine CW.cond rfl (fun hc19 => ?_) (fun hc19 => ?_)
      · have hcb19 := hc19; (try simp only [dT, dF] at hc19); refine zR <| zm rfl rfl <| zs rfl rfl <| zM <| CW.ret <| AQ.block_ret <| AQ.past_ret <| AQ.past_ret <| AQ.block_ret <| AQ.past_ret ?_; refine AQ.ret1 rfl rfl ?_; exact ⟨_, Ld2, _, _, hle, rfl, hst, hd2, .wr hlen hk1 hz (by simpa using hc19)⟩
      · have hcb19 := hc19; (try simp only [dT, dF] at hc19); refine CW.skip <| AQ.block_normal <| AQ.next <| CW.region ?_; refine RW.op1 rfl (runs_add rfl rfl (by omega)) ?_; refine zm rfl rfl <| RW.done ?_
        exact AQ.again (x := (k, I1, Ld1)) (k + 1, _, Ld2) ⟨hle, hst, hd2, by dsimp only; omega, fun j hj => by
          by_cases h : j < k
          · exact hz j h
          · obtain rfl : j = k := by dsimp only at hj; omega
            simpa using hc19⟩ ⟨rfl, rfl, rfl, trivial⟩ (by dsimp only; omega)
    · have hcb12 := hc12; (try simp only [dT, dF] at hc12)
      obtain rfl : k = 514 := by omega
      refine CW.exit ?_; refine AQ.past_exit <| AQ.past_exit <| AQ.block_hit <| AQ.next <| CW.seq <| zR <| zm rfl rfl ?_; refine RW.call rfl call42 rfl rfl (flush_spec hd hst) ?_; clear hst; rintro e w ⟨Ld3, rfl, hst, hd3⟩; refine ⟨_, rfl, ?_⟩; refine zs rfl rfl <| zN <| zm rfl rfl <| RW.op1 rfl (runs_neI rfl rfl) <| zM ?_; refine CW.cond rfl (fun hc25 => ?_) (fun hc25 => ?_)
      · have hcb25 := hc25; (try simp only [dT, dF] at hc25); refine zR <| zm rfl rfl <| zs rfl rfl <| zM <| CW.ret <| AQ.past_ret ?_; refine AQ.ret1 rfl rfl ?_; exact ⟨_, Ld3, _, _, hle, rfl, hst, hd3, .fl hlen hz (by simpa using hc25)⟩
      · have hcb25 := hc25; (try simp only [dT, dF] at hc25); refine CW.skip <| AQ.next <| zR <| zm rfl rfl <| RW.op1 rfl (runs_buildF (cells := [_, _, _, _, _]) bz88 rfl rfl rfl rfl rfl) ?_; refine RW.call rfl call43 rfl rfl (store_spec hd3 hst slot1 (by unfold i64ok slot1; dsimp only; omega) (by have := flushR_pend (zput S 514); have h2 := putTo_pend S 0 (fun _ => zeroB) 514; have h3 : (zput S 514).pend.length ≤ S.pend.length + 514 := h2; omega)) ?_; clear hst; rintro e w ⟨I6, Ld4, hI6, rfl, hst, hd4⟩; replace hle := hle.trans hI6; refine ⟨_, rfl, ?_⟩; refine zs rfl rfl <| zM <| CW.ret ?_; refine AQ.ret1 rfl rfl ?_; exact ⟨_, Ld4, _, _, hle, rfl, hst, hd4, .st hlen hz (by simpa using hc25)⟩
end Go.Proofs.YtadgbifmiooikaaGreatX
namespace Go.Proofs.YtadgbifmiooikaaGreatX
set_option linter.unusedVariables false
set_option linter.unusedSimpArgs false
open Go Go.RowKit
def tlE (x : List UInt8) : Int := bat x 30 * 2 ^ 8 + bat x 31
def tlQ (x : List UInt8) : Int := bat x 27 * 2 ^ 16 + bat x 28 * 2 ^ 8 + bat x 29
theorem bat_nat (x : List UInt8) (k : Nat) : bat x (k : Int) = ((x.getD k 0).toNat : Int) := rfl
theorem bat_drop (x : List UInt8) (i k : Nat) : bat (x.drop i) (k : Int) = bat x ((i + k : Nat) : Int) := by
  rw [bat_nat, bat_nat, List.getD_eq_getElem?_getD, List.getD_eq_getElem?_getD, List.getElem?_drop]
theorem tl_drop (x : List UInt8) : tlQ x = bat (x.drop 27) 0 * 2 ^ 16 + bat (x.drop 27) 1 * 2 ^ 8 + bat (x.drop 27) 2 ∧ tlE x = bat (x.drop 27) 3 * 2 ^ 8 + bat (x.drop 27) 4 := by
  have h0 := bat_drop x 27 0; have h1 := bat_drop x 27 1; have h2 := bat_drop x 27 2; have h3 := bat_drop x 27 3; have h4 := bat_drop x 27 4; unfold tlQ tlE
  constructor
  · rw [show (0 : Int) = ((0 : Nat) : Int) from rfl, show (1 : Int) = ((1 : Nat) : Int) from rfl, show bat (x.drop 27) 2 = bat (x.drop 27) ((2 : Nat) : Int) from rfl, h0, h1, h2]
    rfl
  · rw [show bat (x.drop 27) 3 = bat (x.drop 27) ((3 : Nat) : Int) from rfl, show bat (x.drop 27) 4 = bat (x.drop 27) ((4 : Nat) : Int) from rfl, h3, h4]
    rfl
theorem seal_tl {e s p n : Int} {b : List UInt8} (h : sealM e s p n b = true) : tlE (sealB e s p n b) = e ∧ tlQ (sealB e s p n b) = s := by
  obtain ⟨he, hs, _, _, _, hb⟩ := sealM_parts h; obtain ⟨h1, h2⟩ := tl_drop (sealB e s p n b); rw [h1, h2, sealB_tail hb]
  have g0 : bat (three s ++ two e) 0 = (s / 2 ^ 16) % 256 := by show ((u8 (s / 2 ^ 16)).toNat : Int) = _; rw [u8_toNat]
  have g1 : bat (three s ++ two e) 1 = (s / 2 ^ 8) % 256 := by show ((u8 (s / 2 ^ 8)).toNat : Int) = _; rw [u8_toNat]
  have g2 : bat (three s ++ two e) 2 = s % 256 := by show ((u8 s).toNat : Int) = _; rw [u8_toNat]
  have g3 : bat (three s ++ two e) 3 = (e / 2 ^ 8) % 256 := by show ((u8 (e / 2 ^ 8)).toNat : Int) = _; rw [u8_toNat]
  have g4 : bat (three s ++ two e) 4 = e % 256 := by show ((u8 e).toNat : Int) = _; rw [u8_toNat]
  rw [g0, g1, g2, g3, g4]; omega
theorem openR_err0 {x : List UInt8} (h : (openR x).err = 0) : openOk x = true := by
  rw [openR_err] at h
  cases ho : openOk x
  · rw [ho] at h; cases h
  · rfl
theorem open_marks {x : List UInt8} (h : (openR x).err = 0) : epochOf x = (openR x).e ∧ seqOf x = (openR x).q ∧ tlE x = (openR x).e ∧ tlQ x = (openR x).q := by
  have ho := openR_err0 h; obtain ⟨_, _, h3, h4⟩ := openOk_parts ho; have ht := seal_tl h3; rw [h4] at ht; rw [openR_ok ho]; exact ⟨rfl, rfl, ht.1, ht.2⟩
theorem seal_hd {e s p n : Int} {b : List UInt8} (h : sealM e s p n b = true) : epochOf (sealB e s p n b) = e ∧ seqOf (sealB e s p n b) = s := ⟨(sealB_open h).1, (sealB_open h).2.1⟩
def mixB (u v : List UInt8) : List UInt8 := u.take 16 ++ v.drop 16
theorem mix_hd {u v : List UInt8} (hu : u.length = 32) : epochOf (mixB u v) = epochOf u ∧ seqOf (mixB u v) = seqOf u := by
  have g : ∀ k : Nat, k < 16 → bat (mixB u v) (k : Int) = bat u (k : Int) := by
    intro k hk; rw [bat_nat, bat_nat, List.getD_eq_getElem?_getD, List.getD_eq_getElem?_getD]; unfold mixB; rw [List.getElem?_append_left (by rw [List.length_take]; omega), List.getElem?_take, if_pos hk]
  have g0 := g 0 (by decide); have g1 := g 1 (by decide); have g2 := g 2 (by decide); have g3 := g 3 (by decide); have g4 := g 4 (by decide); unfold epochOf seqOf
  exact ⟨by rw [show (0 : Int) = ((0 : Nat) : Int) from rfl, show (1 : Int) = ((1 : Nat) : Int) from rfl, g0, g1],
    by rw [show ∀ z, bat z 2 = bat z ((2 : Nat) : Int) from fun _ => rfl, show ∀ z, bat z 3 = bat z ((3 : Nat) : Int) from fun _ => rfl, show ∀ z, bat z 4 = bat z ((4 : Nat) : Int) from fun _ => rfl, g2, g3, g4]; rfl⟩
theorem mix_tl {u v : List UInt8} (hu : u.length = 32) : tlE (mixB u v) = tlE v ∧ tlQ (mixB u v) = tlQ v := by
  have e : (mixB u v).drop 27 = v.drop 27 := by
    unfold mixB; rw [List.drop_append, List.drop_eq_nil_of_le (by rw [List.length_take]; omega), List.length_take, List.drop_drop, hu]
    rfl
  obtain ⟨h1, h2⟩ := tl_drop (mixB u v); obtain ⟨h3, h4⟩ := tl_drop v; rw [h1, h2, h3, h4, e]; exact ⟨rfl, rfl⟩
theorem gB_eq {S S' : DS} {at_ : Int} : ∀ n, (∀ k, k < n → oAt S' at_ k = oAt S at_ k) → gB S' at_ n = gB S at_ n
  | 0, _ => rfl
  | n + 1, h => by
    show gB S' at_ n ++ (oAt S' at_ n).b = gB S at_ n ++ (oAt S at_ n).b
    rw [gB_eq n (fun k hk => h k (by omega)), h n (by omega)]
theorem okP_eq {S S' : DS} {at_ : Int} {k : Nat} (h0 : oAt S' at_ 0 = oAt S at_ 0) (h : oAt S' at_ k = oAt S at_ k) : okP S' at_ k = okP S at_ k := by
  unfold okP; rw [h0, h]
theorem okP_pos {S : DS} {at_ : Int} (h : okP S at_ 0) : 1 ≤ (oAt S at_ 0).n := by
  have h1 := openR_pos (s := readR S (at_ + ((0 : Nat) : Int))) h.1; have h2 : (oAt S at_ 0).p < (oAt S at_ 0).n ∧ 0 ≤ (oAt S at_ 0).p := h1; omega
theorem gather_fun {S : DS} {at_ end_ e q parts er e' q' parts' er' : Int} {b b' : List UInt8} (h : GatherR S at_ end_ e q b parts er) (h' : GatherR S at_ end_ e' q' b' parts' er') : e = e' ∧ q = q' ∧ b = b' ∧ parts = parts' ∧ er = er' := by
  rcases h with ⟨hd, rfl, rfl, rfl, rfl, rfl⟩ | ⟨hd, h⟩
  · rcases h' with ⟨_, rfl, rfl, rfl, rfl, rfl⟩ | ⟨hd', _⟩
    · exact ⟨rfl, rfl, rfl, rfl, rfl⟩
    · rw [hd] at hd'; cases hd'
  · rcases h' with ⟨hd', _⟩ | ⟨_, h'⟩
    · rw [hd] at hd'; cases hd'
    · rcases h with ⟨n, h1, h2, h3, rfl, rfl, rfl, rfl, rfl⟩ | ⟨k, h1, h2, h3, rfl, rfl, rfl, rfl, rfl⟩
      · rcases h' with ⟨n', h1', h2', h3', rfl, rfl, rfl, rfl, rfl⟩ | ⟨k, h1', h2', h3', _⟩
        · obtain rfl : n = n' := by omega
          exact ⟨rfl, rfl, rfl, rfl, rfl⟩
        · exact absurd (h3 k (by omega)) h3'
      · rcases h' with ⟨n', h1', h2', h3', _⟩ | ⟨k', _, _, _, rfl, rfl, rfl, rfl, rfl⟩
        · exact absurd (h3' k (by omega)) h3
        · exact ⟨rfl, rfl, rfl, rfl, rfl⟩
theorem frr_fun {S : DS} {at_ end_ : Int} {r r' : Int × Int × List UInt8 × Int × Int} (h : FrR S at_ end_ r) (h' : FrR S at_ end_ r') : r = r' := by
  unfold FrR at h h'
  split at h
  · rename_i hc
    rw [if_pos hc] at h'; rw [h, h']
  · rename_i hc
    rw [if_neg hc] at h'; obtain ⟨_, _, _, _, _, hg, rfl⟩ := h; obtain ⟨_, _, _, _, _, hg', rfl⟩ := h'; obtain ⟨rfl, rfl, rfl, rfl, rfl⟩ := gather_fun hg hg'
    rfl
theorem least_or (P : Nat → Prop) [DecidablePred P] : ∀ n, (∀ k, k < n → P k) ∨ ∃ k, k < n ∧ (∀ j, j < k → P j) ∧ ¬ P k
  | 0 => .inl fun k h => absurd h (Nat.not_lt_zero _)
  | n + 1 => by
    rcases least_or P n with h | ⟨k, h1, h2⟩
    · by_cases hn : P n
      · exact .inl fun k hk => by
          by_cases h' : k < n
          · exact h k h'
          · obtain rfl : k = n := by omega
            exact hn
      · exact .inr ⟨n, by omega, h, hn⟩
    · exact .inr ⟨k, by omega, h2⟩
theorem frr_ex (S : DS) (at_ end_ : Int) : ∃ r, FrR S at_ end_ r := by
  unfold FrR
  split
  · exact ⟨_, rfl⟩
  · cases hd : S.down
    · by_cases h0 : at_ + ((0 : Nat) : Int) < end_ ∧ okP S at_ 0
      · have hp := okP_pos h0.2
        rcases least_or (fun k => at_ + (k : Int) < end_ ∧ okP S at_ k) (oAt S at_ 0).n.toNat with h | ⟨k, h1, h2, h3⟩
        · exact ⟨_, _, _, _, _, _, .inr ⟨hd, .inl ⟨(oAt S at_ 0).n.toNat, by omega, by omega, h, rfl, rfl, rfl, rfl, rfl⟩⟩, rfl⟩
        · exact ⟨_, _, _, _, _, _, .inr ⟨hd, .inr ⟨k, .inr (by omega), h2, h3, rfl, rfl, rfl, rfl, rfl⟩⟩, rfl⟩
      · exact ⟨_, _, _, _, _, _, .inr ⟨hd, .inr ⟨0, .inl rfl, fun j h => absurd h (Nat.not_lt_zero _), h0, rfl, rfl, rfl, rfl, rfl⟩⟩, rfl⟩
    · exact ⟨_, _, _, _, _, _, .inl ⟨hd, rfl, rfl, rfl, rfl, rfl⟩, rfl⟩
theorem oAt_eq {S S' : DS} {at_ lim : Int} (hr : ∀ p, at_ ≤ p → p < lim → readR S' p = readR S p) {k : Nat} (hk : at_ + (k : Int) < lim) : oAt S' at_ k = oAt S at_ k := by
  unfold oAt; rw [hr _ (by omega) hk]
theorem frr_in {S S' : DS} (hl : S'.secs.length = S.secs.length) (hdn : S'.down = S.down) {at_ end_ : Int} (hr : ∀ p, at_ ≤ p → p < end_ → readR S' p = readR S p) {r : Int × Int × List UInt8 × Int × Int} (h : FrR S at_ end_ r) : FrR S' at_ end_ r := by
  unfold FrR at h ⊢; rw [hl]
  split
  · rename_i hc
    rwa [if_pos hc] at h
  · rename_i hc
    rw [if_neg hc] at h; obtain ⟨ge, gq, gb, parts, ger, hg, rfl⟩ := h; refine ⟨ge, gq, gb, parts, ger, ?_, rfl⟩; have h0 : oAt S' at_ 0 = oAt S at_ 0 := oAt_eq hr (by omega)
    rcases hg with ⟨hd, h⟩ | ⟨hd, h⟩
    · exact .inl ⟨by rw [hdn, hd], h⟩
    · refine .inr ⟨by rw [hdn, hd], ?_⟩
      have hok : ∀ k : Nat, at_ + (k : Int) < end_ → okP S' at_ k = okP S at_ k := fun k hk => okP_eq h0 (oAt_eq hr hk)
      rcases h with ⟨n, h1, h2, h3, h4, h5, h6, h7, h8⟩ | ⟨k, h1, h2, h3, h4⟩
      · exact .inl ⟨n, h1, by rw [h0]; exact h2, fun k hk => ⟨(h3 k hk).1, by rw [hok k (h3 k hk).1]; exact (h3 k hk).2⟩, by rw [h0]; exact h4, by rw [h0]; exact h5, by rw [gB_eq n (fun k hk => oAt_eq hr (h3 k hk).1)]; exact h6, h7, h8⟩
      · exact .inr ⟨k, by rw [h0]; exact h1, fun j hj => ⟨(h2 j hj).1, by rw [hok j (h2 j hj).1]; exact (h2 j hj).2⟩, fun hc => h3 ⟨hc.1, by rw [← hok k hc.1]; exact hc.2⟩, h4⟩
theorem frr_inv {S : DS} {at_ end_ e q next : Int} {b : List UInt8} (h : FrR S at_ end_ (e, q, b, next, 0)) : ∃ n : Nat, 1 ≤ n ∧ next = at_ + (n : Int) ∧ (oAt S at_ 0).n = (n : Int) ∧ (∀ k : Nat, k < n → at_ + (k : Int) < end_ ∧ okP S at_ k) ∧ e = (oAt S at_ 0).e ∧ q = (oAt S at_ 0).q ∧ 0 ≤ at_ ∧ end_ ≤ S.secs.length ∧ S.down = false ∧ readEnd at_ e q (gB S at_ n) (n : Int) 0 = (e, q, b, next, 0) := by
  unfold FrR at h
  split at h
  · simp at h
  · rename_i hr
    obtain ⟨ge, gq, gb, parts, ger, hg, h⟩ := h
    have he0 : ger = 0 := by
      by_cases he : ger = 0
      · exact he
      · unfold readEnd at h; rw [if_pos he] at h
        simp only [Prod.mk.injEq] at h
        exact h.2.2.2.2.symm
    subst he0
    rcases hg with ⟨_, _, _, _, _, h'⟩ | ⟨hd, ⟨n, h1, h2, h3, h4, h5, h6, h7, h8⟩ | ⟨k, _, _, _, _, _, _, _, h8⟩⟩
    · cases h'
    · subst h6 h7; have h' := h; unfold readEnd at h'; rw [if_neg (by decide)] at h'
      split at h'
      · simp at h'
      · simp only [Prod.mk.injEq] at h'
        obtain ⟨rfl, rfl, _, rfl, _⟩ := h'; exact ⟨n, h1, rfl, h2, h3, h4, h5, by omega, by omega, hd, h.symm⟩
    · cases h8
theorem frr_mk {S : DS} {at_ end_ e q next : Int} {b : List UInt8} {n : Nat} (h1 : 1 ≤ n) (h2 : (oAt S at_ 0).n = (n : Int)) (h3 : ∀ k : Nat, k < n → at_ + (k : Int) < end_ ∧ okP S at_ k) (h4 : e = (oAt S at_ 0).e) (h5 : q = (oAt S at_ 0).q) (h6 : 0 ≤ at_) (h7 : end_ ≤ S.secs.length) (h8 : S.down = false)
    (h9 : readEnd at_ e q (gB S at_ n) (n : Int) 0 = (e, q, b, next, 0)) : FrR S at_ end_ (e, q, b, next, 0) := by
  have := (h3 0 (by omega)).1; unfold FrR; rw [if_neg (by omega)]; exact ⟨e, q, _, _, 0, .inr ⟨h8, .inl ⟨n, h1, h2, h3, h4, h5, rfl, rfl, rfl⟩⟩, h9.symm⟩
theorem frr_loc {S S' : DS} (hl : S'.secs.length = S.secs.length) (hdn : S'.down = S.down) {at_ end_ e q next : Int} {b : List UInt8} (h : FrR S at_ end_ (e, q, b, next, 0)) (hr : ∀ p, at_ ≤ p → p < next → readR S' p = readR S p) : FrR S' at_ end_ (e, q, b, next, 0) := by
  obtain ⟨n, h1, rfl, h2, h3, h4, h5, h6, h7, h8, h9⟩ := frr_inv h
  have ho : ∀ k : Nat, k < n → oAt S' at_ k = oAt S at_ k := fun k hk => oAt_eq hr (by omega)
  have h0 := ho 0 (by omega); exact frr_mk h1 (by rw [h0]; exact h2) (fun k hk => ⟨(h3 k hk).1, by rw [okP_eq h0 (ho k hk)]; exact (h3 k hk).2⟩) (by rw [h0]; exact h4) (by rw [h0]; exact h5) h6 (by rw [hl]; exact h7) (by rw [hdn]; exact h8) (by rw [gB_eq n ho]; exact h9)
theorem frr_holds {S : DS} {at_ end_ e q : Int} {b : List UInt8} (h : Holds S at_ e q b) (hd : S.down = false) (h0 : 0 ≤ at_) (he : at_ + (needN b.length : Nat) ≤ end_) (hl : end_ ≤ S.secs.length) : FrR S at_ end_ (e, q, b, at_ + (needN b.length : Nat), 0) := by
  have hn := need_room b.length; have ho := h.o (k := 0) (by omega); refine frr_mk (n := needN b.length) hn.2.2 (by rw [ho]) (fun k hk => ⟨by omega, h.ok hk⟩) (by rw [ho]) (by rw [ho]) h0 hl hd ?_; rw [h.all]; exact readEnd_whole _ _ _ _
def NoRec (S : DS) (en e least p nx : Int) : Prop := ∀ me b next, FrR S p en (me, nx, b, next, 0) → least ≤ me → me ≤ e → False
theorem recs_stop {S : DS} {en e least p nx : Int} (h : NoRec S en e least p nx) : Recs S en e least p nx [] p nx := by
  obtain ⟨⟨me, mq, b, next, er⟩, hr⟩ := frr_ex S p en; refine .stop hr ?_
  by_cases h1 : er = 0
  · by_cases h2 : mq = nx
    · by_cases h3 : least ≤ me
      · by_cases h4 : me ≤ e
        · subst h1 h2; exact (h _ _ _ hr h3 h4).elim
        · exact .inr (.inr (.inr (by omega)))
      · exact .inr (.inr (.inl (by omega)))
    · exact .inr (.inl h2)
  · exact .inl h1
theorem recs_rng {S : DS} {en e least p nx a n : Int} {bs : List (List UInt8)} (h : Recs S en e least p nx bs a n) : p ≤ a ∧ n = nx + (bs.length : Nat) ∧ (p ≤ en → a ≤ en) := by
  induction h with
  | stop => exact ⟨Int.le_refl _, by simp, id⟩
  | step h _ _ _ ih =>
    obtain ⟨m, h1, h2, _, h3, _⟩ := frr_inv h; have := (h3 (m - 1) (by omega)).1; rw [List.length_cons]; omega
theorem recs_fun {S : DS} {en e least p nx a n a' n' : Int} {bs bs' : List (List UInt8)} (h : Recs S en e least p nx bs a n) : Recs S en e least p nx bs' a' n' → bs = bs' ∧ a = a' ∧ n = n' := by
  induction h generalizing bs' with
  | stop h1 h2 =>
    intro h'
    cases h' with
    | stop => exact ⟨rfl, rfl, rfl⟩
    | step h3 h4 h5 h6 =>
      have := frr_fun h1 h3
      simp only [Prod.mk.injEq] at this
      omega
  | step h1 h2 h3 h4 ih =>
    intro h'
    cases h' with
    | stop h5 h6 =>
      have := frr_fun h1 h5
      simp only [Prod.mk.injEq] at this
      omega
    | step h5 h6 h7 h8 =>
      have := frr_fun h1 h5
      simp only [Prod.mk.injEq] at this
      obtain ⟨rfl, _, rfl, rfl, _⟩ := this; obtain ⟨rfl, rfl, rfl⟩ := ih h8; exact ⟨rfl, rfl, rfl⟩
theorem recs_ext {S S' : DS} (hl : S'.secs.length = S.secs.length) (hdn : S'.down = S.down) {en e e' : Int} (he : e ≤ e') {least p nx a n : Int} {bs : List (List UInt8)} (h : Recs S en e least p nx bs a n) : (∀ x, p ≤ x → x < a → readR S' x = readR S x) →
    ∃ least', least ≤ least' ∧ (least' = least ∨ least' ≤ e) ∧ NoRec S en e least' a n ∧ ∀ bs2 a2 n2, Recs S' en e' least' a n bs2 a2 n2 → Recs S' en e' least p nx (bs ++ bs2) a2 n2 := by
  induction h with
  | stop h1 h2 =>
    intro _; refine ⟨_, Int.le_refl _, .inl rfl, fun me b next h3 h4 h5 => ?_, fun bs2 a2 n2 h => h⟩; have := frr_fun h1 h3
    simp only [Prod.mk.injEq] at this
    omega
  | step h1 h2 h3 h4 ih =>
    intro hr; have hle := recs_rng h4; obtain ⟨m, m1, m2, _⟩ := frr_inv h1; obtain ⟨l', i1, i2, i3, i4⟩ := ih (fun x hx hx2 => hr x (by omega) hx2); refine ⟨l', by omega, .inr (by omega), i3, fun bs2 a2 n2 h => .step (frr_loc hl hdn h1 (fun x hx hx2 => hr x hx (by omega))) h2 (by omega) (i4 bs2 a2 n2 h)⟩
end Go.Proofs.YtadgbifmiooikaaGreatX
namespace Go.Proofs.YtadgbifmiooikaaGreatX
set_option linter.unusedVariables false
set_option linter.unusedSimpArgs false
open Go Go.RowKit
theorem getD_setL {α : Type} {s : List α} {i j : Nat} {x d : α} : (s.set i x).getD j d = if i = j ∧ i < s.length then x else s.getD j d := by
  rw [List.getD_eq_getElem?_getD, List.getD_eq_getElem?_getD, List.getElem?_set]
  by_cases h : i = j
  · subst h
    by_cases hl : i < s.length
    · simp [hl]
    · simp [hl]
  · simp [h]
def secAt (X : List (List UInt8)) (p : Int) : List UInt8 := X.getD p.toNat []
theorem readR_nil {S : DS} (h : S.pend = []) (p : Int) : readR S p = secAt S.secs p := by
  unfold readR; rw [h]
  rfl
theorem fold_read : ∀ (ps : List (Int × List UInt8)) (X : List (List UInt8)) (p : Int), 0 ≤ p → p < X.length → (∀ x ∈ ps, 0 ≤ x.1 ∧ x.1 < (X.length : Int)) → secAt (ps.foldl (fun s x => s.set x.1.toNat x.2) X) p = ps.foldl (fun b x => if x.1 = p then x.2 else b) (secAt X p)
  | [], X, p, _, _, _ => rfl
  | x :: r, X, p, h0, h1, hx => by
    have hx0 := hx x (List.mem_cons_self ..); rw [List.foldl_cons, List.foldl_cons, fold_read r (X.set x.1.toNat x.2) p h0 (by rw [List.length_set]; exact h1) (fun y hy => by rw [List.length_set]; exact hx y (List.mem_cons_of_mem _ hy))]
    congr 1
    unfold secAt; rw [getD_setL]
    by_cases h : x.1 = p
    · rw [if_pos h, if_pos ⟨by omega, by omega⟩]
    · rw [if_neg h, if_neg (by omega)]
theorem flush_ok {S : DS} (h : S.down = false) : flushR S = ({ S with secs := S.pend.foldl (fun s p => s.set p.1.toNat p.2) S.secs, pend := [] }, 0) := by
  unfold flushR; rw [if_neg (by rw [h]; decide)]
theorem flush_read {S : DS} (hd : S.down = false) (hp : ∀ x ∈ S.pend, 0 ≤ x.1 ∧ x.1 < (S.secs.length : Int)) {p : Int} (h0 : 0 ≤ p) (h1 : p < S.secs.length) : readR (flushR S).1 p = readR S p := by
  rw [flush_ok hd, readR_nil rfl]; exact fold_read _ _ _ h0 h1 hp
theorem write_cases {S : DS} (hd : S.down = false) {a : Int} {b : List UInt8} (h0 : 0 ≤ a) (h1 : a < S.secs.length) (hb : b.length = 32) :
    (writeR S a b = ({ S with down := true }, 8) ∧ S.left = 0) ∨ ∃ l, writeR S a b = ({ S with pend := S.pend ++ [(a, b)], left := l }, 0) ∧ (S.left = -1 → l = -1) := by
  have hm := may_in hd h0 h1
  by_cases hl : S.left = 0
  · exact .inl ⟨by unfold writeR; rw [if_neg (by rw [hm]; decide), if_neg (by omega), if_pos hl], hl⟩
  · refine .inr ⟨_, write_ok hm hb hl, fun h => ?_⟩; rw [h]
    decide
theorem put_any {S : DS} (hd : S.down = false) {at_ : Int} {f : Nat → List UInt8} {n : Nat} (h0 : 0 ≤ at_) (h1 : at_ + n ≤ S.secs.length) (hf : ∀ k, k < n → (f k).length = 32) : ∀ k, k ≤ n → (∀ j, j < k → putE S at_ f j = 0) → ∃ l, putTo S at_ f k = { S with pend := S.pend ++ putP at_ f k, left := l } ∧ (S.left = -1 → l = -1)
  | 0, _, _ => ⟨S.left, by show S = _; simp [putP], id⟩
  | k + 1, hk, hz => by
    obtain ⟨l, ih, hl⟩ := put_any hd h0 h1 hf k (by omega) (fun j hj => hz j (by omega)); have he := hz k (by omega); unfold putE at he; rw [ih] at he
    rcases write_cases (S := { S with pend := S.pend ++ putP at_ f k, left := l }) hd (a := at_ + (k : Int)) (b := f k) (by omega) (by show at_ + (k : Int) < S.secs.length; omega) (hf k (by omega)) with ⟨h, _⟩ | ⟨l', h, hl'⟩
    · rw [h] at he; cases he
    · refine ⟨l', ?_, fun h => hl' (hl h)⟩
      show (writeR (putTo S at_ f k) (at_ + (k : Int)) (f k)).1 = _
      rw [ih, h]
      simp [putP, List.append_assoc]
theorem put_endsL {S : DS} (hd : S.down = false) {at_ : Int} {f : Nat → List UInt8} {n : Nat} (h0 : 0 ≤ at_) (h1 : at_ + n ≤ S.secs.length) (hf : ∀ k, k < n → (f k).length = 32) {S' : DS} {next er : Int} (hp : PutEnds S at_ f n S' next er) :
    (∃ l, S' = { S with pend := S.pend ++ putP at_ f n, left := l } ∧ (S.left = -1 → l = -1) ∧ next = at_ + n ∧ er = 0) ∨
    ∃ k l, k < n ∧ S' = { S with pend := S.pend ++ putP at_ f k, left := l, down := true } ∧ S.left ≠ -1 ∧ er = 8 := by
  rcases hp with ⟨hz, h2, h3, h4⟩ | ⟨k, hk, hz, h2, h3, h4, h5⟩
  · obtain ⟨l, h, hl⟩ := put_any hd h0 h1 hf n (Nat.le_refl _) hz; exact .inl ⟨l, by rw [h2, h], hl, h3, h4⟩
  · obtain ⟨l, h, hl⟩ := put_any hd h0 h1 hf k (by omega) hz; have e1 : putTo S at_ f (k + 1) = (writeR (putTo S at_ f k) (at_ + (k : Int)) (f k)).1 := rfl; unfold putE at h2 h5
    rcases write_cases (S := { S with pend := S.pend ++ putP at_ f k, left := l }) hd (a := at_ + (k : Int)) (b := f k) (by omega) (by show at_ + (k : Int) < S.secs.length; omega) (hf k (by omega)) with ⟨h', hl'⟩ | ⟨l', h', _⟩
    · rw [h, h'] at h5; rw [h] at e1; rw [h'] at e1; refine .inr ⟨k, l, hk, by rw [h3, e1], fun hs => ?_, h5⟩; have := hl hs; have h'' : l = 0 := hl'; omega
    · rw [h, h'] at h2; exact absurd rfl h2
theorem putP_mem {at_ : Int} {f : Nat → List UInt8} : ∀ {n : Nat} {x : Int × List UInt8}, x ∈ putP at_ f n → ∃ k, k < n ∧ x = (at_ + (k : Int), f k)
  | 0, x, h => by cases h
  | n + 1, x, h => by
    rcases List.mem_append.1 (show x ∈ putP at_ f n ++ [(at_ + (n : Int), f n)] from h) with h | h
    · obtain ⟨k, hk, he⟩ := putP_mem h; exact ⟨k, by omega, he⟩
    · exact ⟨n, by omega, by simpa using h⟩
theorem crash_fold (P : Int → List UInt8 → Prop) (ks : List Int) : ∀ (xs : List ((Int × List UInt8) × Nat)) (X : List (List UInt8)), (∀ x ∈ xs, 0 ≤ x.1.1) → (∀ q, 0 ≤ q → q < (X.length : Int) → P q (secAt X q)) →
    (∀ x ∈ xs, ∀ c m, m = 0 ∨ m = 16 ∨ m = 32 → x.1.1 < (X.length : Int) → P x.1.1 c → P x.1.1 (x.1.2.take m ++ c.drop m)) →
    ∀ q, 0 ≤ q → q < (X.length : Int) → P q (secAt (xs.foldl (fun s x => s.set x.1.1.toNat (tornR ks x s)) X) q)
  | [], X, _, h1, _, q, h0, hl => h1 q h0 hl
  | x :: r, X, hx, h1, h2, q, h0, hl => by
    rw [List.foldl_cons]; refine crash_fold P ks r _ (fun y hy => hx y (List.mem_cons_of_mem _ hy)) (fun q' hq0 hq1 => ?_) (fun y hy c m hm hlt hp => ?_) q h0 (by rw [List.length_set]; exact hl)
    · rw [List.length_set] at hq1; unfold secAt; rw [getD_setL]; have hx0 := hx x (List.mem_cons_self ..)
      split
      · rename_i hc
        obtain rfl : x.1.1 = q' := by omega
        have hk : keepN ks x.2 = 0 ∨ keepN ks x.2 = 16 ∨ keepN ks x.2 = 32 := by
          unfold keepN keptR
          (repeat' split) <;> simp
        exact h2 x (List.mem_cons_self ..) _ _ hk hq1 (h1 _ hq0 hq1)
      · exact h1 q' hq0 hq1
    · rw [List.length_set] at hlt; exact h2 y (List.mem_cons_of_mem _ hy) c m hm hlt hp
theorem zip_mem {α : Type} {l : List α} {x : α × Nat} (h : x ∈ l.zipIdx) : x.1 ∈ l := by
  obtain ⟨i, hi⟩ := List.getElem?_of_mem h; rw [List.getElem?_zipIdx] at hi
  cases hp : l[i]? with
  | none => rw [hp] at hi; cases hi
  | some q => rw [hp] at hi; simp at hi; rw [← hi]; exact List.mem_of_getElem? hp
theorem crash_P {S : DS} (P : Int → List UInt8 → Prop) (ks : List Int) (hx : ∀ x ∈ S.pend, 0 ≤ x.1) (h1 : ∀ q, 0 ≤ q → q < (S.secs.length : Int) → P q (secAt S.secs q))
    (h2 : ∀ x ∈ S.pend, ∀ c m, m = 0 ∨ m = 16 ∨ m = 32 → x.1 < (S.secs.length : Int) → P x.1 c → P x.1 (x.2.take m ++ c.drop m)) {q : Int} (h0 : 0 ≤ q) (hl : q < (S.secs.length : Int)) : P q (secAt (crashR S ks).secs q) :=
  crash_fold P ks _ _ (fun x hm => hx x.1 (zip_mem hm)) h1 (fun x hm c m hc hlt hp => h2 x.1 (zip_mem hm) c m hc hlt hp) q h0 hl
theorem crash_ok {S : DS} (h : DOk S) (ks : List Int) : (crashR S ks).secs.length = S.secs.length ∧ ∀ x ∈ (crashR S ks).secs, x.length = 32 := by
  have := crashTo_ok h ks S.pend.zipIdx.length; unfold crashTo at this; rw [List.take_length] at this; exact this
theorem crash_nil {S : DS} (h : S.pend = []) (ks : List Int) : (crashR S ks).secs = S.secs := by
  unfold crashR; rw [h]
  rfl
theorem store_cases {S : DS} (hd : S.down = false) (hp : S.pend = []) (hl : S.secs.length = 514) {s : Slot} (hm : mayM s.e s.n = true) (hn : 0 ≤ s.n) :
    (storeR S s = ({ S with down := true }, 8) ∧ S.left = 0) ∨ ∃ l, storeR S s = ({ S with secs := S.secs.set (s.n % 2).toNat (slotX s), pend := [], left := l }, 0) ∧ (S.left = -1 → l = -1) := by
  have ht : s.n.tmod 2 = s.n % 2 := Int.tmod_eq_emod_of_nonneg hn; unfold storeR; rw [if_neg (by rw [hm]; decide), ht]
  rcases write_cases hd (a := s.n % 2) (b := slotX s) (by omega) (by omega) (slotX_len s) with ⟨h, hl0⟩ | ⟨l, h, hl1⟩
  · rw [h]; exact .inl ⟨if_pos (by show (8 : Int) ≠ 0; decide), hl0⟩
  · rw [h]; refine .inr ⟨l, ?_, hl1⟩; rw [if_neg (by simp)]; dsimp only; rw [flush_ok (S := { S with pend := S.pend ++ [(s.n % 2, slotX s)], left := l }) hd]; dsimp only; rw [hp]
    rfl
def RowsAt (S : DS) (e : Int) : Int → Int → List (List UInt8) → Prop
  | _, _, [] => True
  | at_, q, b :: r => Holds S at_ e q b ∧ RowsAt S e (at_ + (needN b.length : Nat)) (q + 1) r
theorem needS_cons (b : List UInt8) (r : List (List UInt8)) : needS (b :: r) = needN b.length + needS r := by simp [needS]
theorem RowsAt.marks {S : DS} {e : Int} : ∀ {bss : List (List UInt8)} {at_ q : Int}, RowsAt S e at_ q bss → ∀ p, at_ ≤ p → p < at_ + (needS bss : Nat) → ∃ q', q ≤ q' ∧ q' < q + (bss.length : Nat) ∧ epochOf (readR S p) = e ∧ seqOf (readR S p) = q' ∧ tlE (readR S p) = e ∧ tlQ (readR S p) = q'
  | [], at_, q, _, p, h1, h2 => by simp [needS] at h2; omega
  | b :: r, at_, q, h, p, h1, h2 => by
    rw [needS_cons] at h2
    by_cases hp : p < at_ + (needN b.length : Nat)
    · obtain ⟨k, rfl⟩ : ∃ k : Nat, p = at_ + (k : Int) := ⟨(p - at_).toNat, by omega⟩
      have hk : k < needN b.length := by omega
      have hs := seal_part h.1.1 h.1.2.1 hk; rw [h.1.2.2 k hk]; have h3 := seal_hd hs; have h4 := seal_tl hs; exact ⟨q, by omega, by rw [List.length_cons]; omega, h3.1, h3.2, h4.1, h4.2⟩
    · obtain ⟨q', h3, h4, h5⟩ := RowsAt.marks h.2 p (by omega) (by omega); exact ⟨q', by omega, by rw [List.length_cons]; omega, h5⟩
theorem wr_ends {e : Int} {S S' : DS} {at_ q a er : Int} {bss : List (List UInt8)} (h : WrR e S at_ q bss S' a er) : S.down = false → (∀ x ∈ S.pend, 0 ≤ x.1 ∧ x.1 < (S.secs.length : Int)) → (∀ b ∈ bss, needN b.length ≤ 255) → 0 ≤ at_ → at_ + (needS bss : Nat) ≤ S.secs.length → 0 ≤ e → e < 65536 → 0 ≤ q → q + (bss.length : Nat) ≤ 16777216 →
    (er = 0 ∧ a = at_ + (needS bss : Nat) ∧ S'.pend = [] ∧ S'.down = false ∧ (S.left = -1 → S'.left = -1) ∧ S'.secs.length = S.secs.length ∧ (∀ p : Int, 0 ≤ p → p < (S.secs.length : Int) → p < at_ ∨ a ≤ p → readR S' p = readR S p) ∧ RowsAt S' e at_ q bss) ∨
    (er = 8 ∧ S'.down = true ∧ S.left ≠ -1 ∧ S'.secs = S.secs ∧ ∃ ps, S'.pend = S.pend ++ ps ∧ ∀ x ∈ ps, at_ ≤ x.1 ∧ x.1 < at_ + (needS bss : Nat) ∧ x.2.length = 32 ∧ epochOf x.2 = e ∧ tlE x.2 = e) := by
  induction h with
  | nil =>
    rename_i S at_ q
    intro hd hp _ h0 hlen _ _ _ _; have hf := flush_ok hd; refine .inl ⟨by rw [hf], by simp [needS], by rw [hf], by rw [hf]; exact hd, by rw [hf]; exact id, by rw [hf]; exact flush_len _ _, fun p hp0 hp1 _ => flush_read hd hp hp0 hp1, trivial⟩
  | bad hfw hne =>
    rename_i S S' at_ q next er b bss
    intro hd hp hb h0 hlen he0 he1 hq0 hq1; rw [List.length_cons] at hq1; rw [needS_cons] at hlen ⊢
    have hm : mayM e q = true := by unfold mayM; simp only [Bool.and_eq_true, decide_eq_true_eq]; omega
    have hn := hb b (List.mem_cons_self ..); have hfw := hfw.out; rw [if_neg (by rw [hm]; simp; omega), if_neg (by omega)] at hfw
    rcases put_endsL hd h0 (by omega) (fun k hk => secB_len hm hn hk) hfw with ⟨_, _, _, _, h⟩ | ⟨k, l, hk, rfl, hl, rfl⟩
    · exact absurd h hne
    · refine .inr ⟨rfl, rfl, hl, rfl, _, rfl, fun x hx => ?_⟩; obtain ⟨j, hj, rfl⟩ := putP_mem hx; have hs := seal_part hm hn (k := j) (by omega); exact ⟨by dsimp only; omega, by dsimp only; omega, secB_len hm hn (by omega), (seal_hd hs).1, (seal_tl hs).1⟩
  | step hfw hwr ih =>
    rename_i S S1 S' at_ q next a er b bss
    intro hd hp hb h0 hlen he0 he1 hq0 hq1; rw [List.length_cons] at hq1; rw [needS_cons] at hlen ⊢
    have hm : mayM e q = true := by unfold mayM; simp only [Bool.and_eq_true, decide_eq_true_eq]; omega
    have hn := hb b (List.mem_cons_self ..); have hfw := hfw.out; rw [if_neg (by rw [hm]; simp; omega), if_neg (by omega)] at hfw
    rcases put_endsL hd h0 (by omega) (fun k hk => secB_len hm hn hk) hfw with ⟨l, rfl, hl, rfl, _⟩ | ⟨k, l, hk, rfl, hl, h⟩
    · have hp1 : ∀ x ∈ S.pend ++ putP at_ (secB e q b) (needN b.length), 0 ≤ x.1 ∧ x.1 < (S.secs.length : Int) := fun x hx => by
        rcases List.mem_append.1 hx with hx | hx
        · exact hp x hx
        · obtain ⟨j, hj, rfl⟩ := putP_mem hx; dsimp only; omega
      have hin : ∀ k : Nat, k < needN b.length → readR { S with pend := S.pend ++ putP at_ (secB e q b) (needN b.length), left := l } (at_ + (k : Int)) = secB e q b k := fun k hk => read_in (S := { S with left := l }) hk
      have hout : ∀ p : Int, p < at_ ∨ at_ + (needN b.length : Nat) ≤ p → readR { S with pend := S.pend ++ putP at_ (secB e q b) (needN b.length), left := l } p = readR S p := fun p hp => read_out (S := { S with left := l }) hp
      rcases ih hd hp1 (fun c hc => hb c (List.mem_cons_of_mem _ hc)) (by omega) (by show at_ + (needN b.length : Nat) + (needS bss : Nat) ≤ (S.secs.length : Int); omega) he0 he1 (by omega) (by omega) with ⟨i1, i2, i3, i4, i5, i6, i7, i8⟩ | ⟨i1, i2, i3, i4, ps, i5, i6⟩
      · refine .inl ⟨i1, by omega, i3, i4, fun h => i5 (hl h), i6, fun p hp0 hp1 hp => ?_, ?_, i8⟩
        · rw [i7 p hp0 hp1 (by omega), hout p (by omega)]
        · refine ⟨hm, hn, fun k hk => ?_⟩; rw [i7 _ (by omega) (by show at_ + (k : Int) < (S.secs.length : Int); omega) (by omega), hin k hk]
      · refine .inr ⟨i1, i2, fun h => i3 (hl h), i4, putP at_ (secB e q b) (needN b.length) ++ ps, by rw [i5]; exact List.append_assoc .., fun x hx => ?_⟩
        rcases List.mem_append.1 hx with hx | hx
        · obtain ⟨j, hj, rfl⟩ := putP_mem hx; have hs := seal_part hm hn hj; exact ⟨by dsimp only; omega, by dsimp only; omega, secB_len hm hn hj, (seal_hd hs).1, (seal_tl hs).1⟩
        · have := i6 x hx; exact ⟨by omega, by omega, this.2.2⟩
    · cases h
end Go.Proofs.YtadgbifmiooikaaGreatX
namespace Go.Proofs.YtadgbifmiooikaaGreatX
set_option linter.unusedVariables false
set_option linter.unusedSimpArgs false
open Go Go.RowKit
def flat (X : List (List UInt8)) : DS := ⟨X, [], -1, false⟩
theorem read_flat {S : DS} (h : S.pend = []) (p : Int) : readR S p = readR (flat S.secs) p := by rw [readR_nil h, readR_nil rfl]; rfl
structure DI (X : List (List UInt8)) (s : Slot) (bs : List (List UInt8)) (a nx : Int) : Prop where
  len : X.length = 514
  all : ∀ x ∈ X, x.length = 32
  so : SlotOk s
  n1 : 1 ≤ s.n
  be : s.b ≤ s.e
  sl : secAt X (s.n % 2) = slotX s
  ot : tlQ (secAt X ((s.n + 1) % 2)) < s.n
  mx : ∀ p : Int, 2 ≤ p → p < 514 → epochOf (secAt X p) ≤ s.e ∧ tlE (secAt X p) ≤ s.e
  rc : Recs (flat X) (beginR s.h + 256) s.e s.b (beginR s.h) s.f bs a nx
structure LI (S : DS) (G : LG) (bs : List (List UInt8)) : Prop where
  on : S.down = false
  pn : S.pend = []
  ok : G.bad = 0
  di : DI S.secs G.s bs G.at_ G.nx
  st : ∀ p : Int, 2 ≤ p → p < 514 → (epochOf (secAt S.secs p) = G.s.e → seqOf (secAt S.secs p) < G.nx) ∧ (tlE (secAt S.secs p) = G.s.e → tlQ (secAt S.secs p) < G.nx)
theorem SlotOk.may {s : Slot} (h : SlotOk s) : mayM s.e s.n = true := by
  unfold SlotOk at h; unfold mayM
  simp only [Bool.and_eq_true, decide_eq_true_eq]
  omega
theorem DI.rng {X : List (List UInt8)} {s : Slot} {bs : List (List UInt8)} {a nx : Int} (h : DI X s bs a nx) : beginR s.h ≤ a ∧ a ≤ beginR s.h + 256 ∧ nx = s.f + (bs.length : Nat) ∧ 0 ≤ s.f ∧ beginR s.h = 2 + s.h * 256 ∧ 0 ≤ s.h ∧ s.h ≤ 1 := by
  have h1 := recs_rng h.rc; have h2 := h.so; unfold SlotOk at h2; exact ⟨h1.1, h1.2.2 (by omega), h1.2.1, h2.2.2.2.2.2.2.1, rfl, h2.2.2.2.2.1, h2.2.2.2.2.2.1⟩
theorem slot_tl {s : Slot} (h : SlotOk s) : tlQ (slotX s) = s.n := (seal_tl (show sealM s.e s.n 0 1 (slotB s) = true by rw [slot_seal]; exact h.may)).2
theorem slotAt_tl {x : List UInt8} {y : Slot} (h : slotAt x = some y) : tlQ x = y.n := by
  unfold slotAt at h
  split at h
  · rename_i hs
    simp only [isSlot, Bool.and_eq_true, decide_eq_true_eq] at hs
    obtain rfl : slotOf (openR x) = y := Option.some.inj h; exact (open_marks hs.1).2.2.2
  · cases h
theorem DI.newest {S : DS} {s : Slot} {bs : List (List UInt8)} {a nx : Int} (h : DI S.secs s bs a nx) (hd : S.down = false) (hp : S.pend = []) : newestR S = (s, 0) := by
  have hso := h.so
  have h1 : slotAt (readR S (s.n % 2)) = some s := by
    rw [readR_nil hp, h.sl]; unfold SlotOk at hso; exact slotAt_X h.so.may (by omega) (by omega) (by omega)
  have h2 : ∀ y, slotAt (readR S ((s.n + 1) % 2)) = some y → y.n < s.n := fun y hy => by
    have := slotAt_tl hy; have h3 := h.ot; rw [readR_nil hp] at this; omega
  have hl := h.len; unfold newestR; rw [if_neg (by rw [hd]; decide), if_neg (by omega)]
  have : better (slotAt (readR S 0)) (slotAt (readR S 1)) = some s := by
    by_cases hn : s.n % 2 = 0
    · rw [hn] at h1; rw [show (s.n + 1) % 2 = 1 by omega] at h2; rw [h1]
      cases hy : slotAt (readR S 1) with
      | none => rfl
      | some y =>
        have := h2 y hy; exact if_neg (by omega)
    · rw [show s.n % 2 = 1 by omega] at h1; rw [show (s.n + 1) % 2 = 0 by omega] at h2; rw [h1]
      cases hy : slotAt (readR S 0) with
      | none => rfl
      | some y =>
        have := h2 y hy; exact if_pos (by omega)
  rw [this]
theorem recs_in {S S' : DS} (hl : S'.secs.length = S.secs.length) (hdn : S'.down = S.down) {en e least p nx a n : Int} {bs : List (List UInt8)} (h : Recs S en e least p nx bs a n) : (∀ x, p ≤ x → x < en → readR S' x = readR S x) → Recs S' en e least p nx bs a n := by
  induction h with
  | stop h1 h2 => exact fun hr => .stop (frr_in hl hdn hr h1) h2
  | step h1 h2 h3 h4 ih =>
    intro hr; obtain ⟨m, m1, m2, _⟩ := frr_inv h1; exact .step (frr_in hl hdn hr h1) h2 h3 (ih fun x hx hx2 => hr x (by omega) hx2)
theorem set_same {X : List (List UInt8)} {p : Int} {v : List UInt8} (h : secAt X p = v) (h0 : 0 ≤ p) (h1 : p < X.length) : X.set p.toNat v = X := by
  have hp : p.toNat < X.length := by omega
  subst h; unfold secAt; rw [List.getD_eq_getElem?_getD, List.getElem?_eq_getElem hp, Option.getD_some]; exact List.set_getElem_self hp
theorem sec_set {X : List (List UInt8)} {i q : Int} {v : List UInt8} (hi : 0 ≤ i) (hl : i < X.length) (hq : 0 ≤ q) : secAt (X.set i.toNat v) q = if i = q then v else secAt X q := by
  unfold secAt; rw [getD_setL]
  by_cases h : i = q
  · rw [if_pos h, if_pos ⟨by omega, by omega⟩]
  · rw [if_neg h, if_neg (by omega)]
theorem secAt_len {X : List (List UInt8)} (h : ∀ x ∈ X, x.length = 32) {p : Int} (h0 : 0 ≤ p) (h1 : p < X.length) : (secAt X p).length = 32 := by
  have hp : p.toNat < X.length := by omega
  unfold secAt; rw [List.getD_eq_getElem?_getD, List.getElem?_eq_getElem hp, Option.getD_some]; exact h _ (List.getElem_mem hp)
theorem frr_mark {S : DS} {at_ en e q next : Int} {b : List UInt8} (h : FrR S at_ en (e, q, b, next, 0)) : at_ < en ∧ epochOf (readR S at_) = e ∧ seqOf (readR S at_) = q := by
  obtain ⟨n, h1, _, _, h3, h4, h5, _⟩ := frr_inv h; have h0 := h3 0 (by omega); have hm := open_marks (x := readR S (at_ + ((0 : Nat) : Int))) h0.2.1
  have e0 : at_ + ((0 : Nat) : Int) = at_ := by omega
  rw [show openR (readR S (at_ + ((0 : Nat) : Int))) = oAt S at_ 0 from rfl, ← h4, ← h5, e0] at hm; exact ⟨by omega, hm.1, hm.2.1⟩
theorem open_di {S S' : DS} {s : Slot} {bs bs' : List (List UInt8)} {a nx er : Int} {G : LG} (hd : S.down = false) (hp : S.pend = []) (h : DI S.secs s bs a nx) (hb : s.n < 16777215 ∧ s.e < 65535) (ho : OpnR S S' er G bs') :
    (er = 0 ∧ bs' = bs ∧ G = ⟨s.up, a, nx, 0⟩ ∧ LI S' G bs ∧ (S.left = -1 → S'.left = -1)) ∨ (er = 8 ∧ S.left ≠ -1 ∧ S'.down = true ∧ S'.pend = [] ∧ S'.secs = S.secs) := by
  have hnw := h.newest hd hp; have hl := h.len; have hso := h.so; have hrg := h.rng
  have hso2 : SlotOk s.up := by
    unfold SlotOk at hso ⊢; unfold Slot.up; dsimp only; omega
  have hn0 : 0 ≤ s.n := by have := h.n1; omega
  have hsame : S.secs.set (s.n % 2).toNat (slotX s) = S.secs := set_same h.sl (by omega) (by omega); have h1 := store_cases hd hp hl hso.may hn0; rw [hsame] at h1
  have h2 : ∀ l, (S.left = -1 → l = -1) → (storeR { S with secs := S.secs, pend := [], left := l } s.up = ({ S with secs := S.secs, pend := [], left := l, down := true }, 8) ∧ l = 0) ∨ ∃ l', storeR { S with secs := S.secs, pend := [], left := l } s.up = ({ S with secs := S.secs.set ((s.n + 1) % 2).toNat (slotX s.up), pend := [], left := l' }, 0) ∧ (l = -1 → l' = -1) :=
    fun l _ => store_cases (S := { S with secs := S.secs, pend := [], left := l }) hd rfl hl hso2.may (by show 0 ≤ s.n + 1; omega)
  cases ho with
  | len h' => exact absurd (by omega) h'
  | none _ h' => rw [hnw] at h'; exact absurd rfl h'
  | st1 _ _ h' =>
    rw [hnw] at h' ⊢; dsimp only at h' ⊢
    rcases h1 with ⟨h1, hl0⟩ | ⟨l, h1, _⟩
    · rw [h1]; exact .inr ⟨rfl, by omega, rfl, hp, rfl⟩
    · rw [h1] at h'; exact absurd rfl h'
  | full _ _ _ h' => rw [hnw] at h'; dsimp only at h'; omega
  | st2 _ _ h'' _ h' =>
    rw [hnw] at h' h'' ⊢; dsimp only at h' h'' ⊢
    rcases h1 with ⟨h1, hl0⟩ | ⟨l, h1, hl1⟩
    · rw [h1] at h''; cases h''
    · rw [h1] at h' ⊢; dsimp only at h' ⊢
      rcases h2 l hl1 with ⟨h2, hl2⟩ | ⟨l', h2, _⟩
      · rw [h2]; exact .inr ⟨rfl, fun hc => by have := hl1 hc; omega, rfl, rfl, rfl⟩
      · rw [h2] at h'; exact absurd rfl h'
  | ok _ _ h'' _ h' hrec =>
    rw [hnw] at h' h'' hrec ⊢; dsimp only at h' h'' hrec ⊢
    rcases h1 with ⟨h1, hl0⟩ | ⟨l, h1, hl1⟩
    · rw [h1] at h''; cases h''
    · rw [h1] at h' ⊢; dsimp only at h' ⊢
      rcases h2 l hl1 with ⟨h2, hl2⟩ | ⟨l', h2, hl2⟩
      · rw [h2] at h'; cases h'
      · rw [h2]; dsimp only; have hrec2 : Recs S (beginR s.h + 256) s.e s.b (beginR s.h) s.f bs a nx := recs_in (S := flat S.secs) (S' := S) rfl hd h.rc (fun x _ _ => read_flat hp x); obtain ⟨rfl, rfl, rfl⟩ := recs_fun hrec2 hrec
        have hsec : ∀ q : Int, 0 ≤ q → secAt (S.secs.set ((s.n + 1) % 2).toNat (slotX s.up)) q = if (s.n + 1) % 2 = q then slotX s.up else secAt S.secs q := fun q hq => sec_set (by omega) (by omega) hq
        refine .inl ⟨rfl, rfl, rfl, ⟨hd, rfl, rfl, ⟨?_, ?_, hso2, ?_, ?_, ?_, ?_, ?_, ?_⟩, ?_⟩, fun hc => hl2 (hl1 hc)⟩
        · dsimp only; rw [List.length_set]; exact hl
        · intro x hx
          rcases List.mem_or_eq_of_mem_set hx with hx | rfl
          · exact h.all x hx
          · exact slotX_len _
        · show 1 ≤ s.n + 1
          omega
        · have := h.be
          show s.b ≤ s.e + 1
          omega
        · show secAt (S.secs.set ((s.n + 1) % 2).toNat (slotX s.up)) ((s.n + 1) % 2) = _
          rw [hsec _ (by omega), if_pos rfl]
        · show tlQ (secAt (S.secs.set ((s.n + 1) % 2).toNat (slotX s.up)) ((s.n + 1 + 1) % 2)) < s.n + 1
          rw [hsec _ (by omega), if_neg (by omega), show (s.n + 1 + 1) % 2 = s.n % 2 by omega, h.sl, slot_tl hso]; omega
        · intro p hp2 hp3; have := h.mx p hp2 hp3
          show epochOf (secAt (S.secs.set ((s.n + 1) % 2).toNat (slotX s.up)) p) ≤ s.e + 1 ∧ tlE (secAt (S.secs.set ((s.n + 1) % 2).toNat (slotX s.up)) p) ≤ s.e + 1
          rw [hsec p (by omega), if_neg (by omega)]; omega
        · have hread : ∀ x : Int, 2 ≤ x → readR (flat (S.secs.set ((s.n + 1) % 2).toNat (slotX s.up))) x = readR (flat S.secs) x := fun x hx => by
            rw [readR_nil rfl, readR_nil rfl]
            show secAt (S.secs.set ((s.n + 1) % 2).toNat (slotX s.up)) x = secAt S.secs x
            rw [hsec x (by omega), if_neg (by omega)]
          have hlen : (flat (S.secs.set ((s.n + 1) % 2).toNat (slotX s.up))).secs.length = (flat S.secs).secs.length := List.length_set; obtain ⟨least', e1, e2, e3, e4⟩ := recs_ext (S' := flat (S.secs.set ((s.n + 1) % 2).toNat (slotX s.up))) hlen rfl (e' := s.e + 1) (by omega) h.rc (fun x hx _ => hread x (by omega))
          have e5 := e4 [] _ _ (recs_stop fun me b next hf hm1 hm2 => by
            have hf2 := frr_in (S' := flat S.secs) hlen.symm rfl (fun p hp1 _ => (hread p (by omega)).symm) hf; obtain ⟨f1, f2, _⟩ := frr_mark hf2; have f3 := h.mx a (by omega) (by omega); rw [readR_nil rfl] at f2
            exact e3 me b next hf2 hm1 (by rw [← f2]; exact f3.1))
          rw [List.append_nil] at e5; exact e5
        · intro p hp2 hp3; have := h.mx p hp2 hp3
          show (epochOf (secAt (S.secs.set ((s.n + 1) % 2).toNat (slotX s.up)) p) = s.e + 1 → _) ∧ (tlE (secAt (S.secs.set ((s.n + 1) % 2).toNat (slotX s.up)) p) = s.e + 1 → _)
          rw [hsec p (by omega), if_neg (by omega)]; exact ⟨fun h => by omega, fun h => by omega⟩
end Go.Proofs.YtadgbifmiooikaaGreatX
