/- Parts of a proof, joined: walks through the program's functions and their laws, in the order in which they need each other. -/
import Derived.Test.YtadgbifmiooikaaGreatPCb
import Derived.Test.YtadgbifmiooikaaGreatPCg
namespace Go.Proofs.YtadgbifmiooikaaGreatX
set_option linter.unusedVariables false
set_option linter.unusedSimpArgs false
open Go Go.RowKit Go.Proofs
set_option maxRecDepth 100000 in
set_option maxHeartbeats 1000000 in
theorem write_spec {w0 w : World} {I : Imm} {L Ld : Own} {d : Value} {S : DS} (hd : DiskO d S Ld) (hst : St w0 w I (Ld ++ L)) (at_ : Int) {vb : Value} {b : List UInt8} (hb0 : RdB I vb b) (hpn : S.pend.length ≤ 1000000) :
    Calls Tryz.prog 41 #[d, .int .i64 at_, vb] w fun e w' => ∃ I' Ld', Imm.le I I' ∧ e = .returned (.int .i64 (writeR S at_ b).2) ∧ St w0 w' I' (Ld' ++ L) ∧ DiskO d (writeR S at_ b).1 Ld' := by
  refine enter Tryz.func41 rfl (N := 48) rfl rfl ?_
  simp only [zA, zB, zC, zD, zE, Nat.reduceAdd]
  have hle := Imm.le.refl I; refine zR <| zS rfl rfl <| zM <| zk <| zR <| zm rfl rfl <| zm rfl rfl <| zK rfl call66 rfl rfl (dmay_spec hd hst at_) ?_; clear hst; rintro e w ⟨rfl, hst⟩; refine ⟨_, rfl, ?_⟩; refine zS rfl rfl <| zN <| zm rfl rfl <| z1 rfl (runs_neI rfl rfl) <| zM <| zb rfl (fun hc12 => ?_) (fun hc12 => ?_)
  · have hcb12 := hc12; (try simp only [dY, dF] at hc12); refine zR <| zm rfl rfl <| zS rfl rfl <| zM <| CW.ret <| zr <| z9 rfl rfl ?_
    have hw : writeR S at_ b = (S, mayR S at_) := by unfold writeR; rw [if_pos (by omega)]
    rw [hw]; exact ⟨I, _, Imm.le.refl I, rfl, hst, hd⟩
  · have hcb12 := hc12; (try simp only [dY, dF] at hc12)
    have hm0 : mayR S at_ = 0 := by omega
    obtain ⟨hdn, ha0, ha1⟩ := mayR_ok hm0; have hd0 := hd; obtain ⟨hb, vl, vp, Ls, Lp, rfl, hstn, hgl, hgp, hok, hsh⟩ := hd.opn hst; clear hst; have hst := hstn; clear hstn; have hlo := hok.2.2.2; refine zj <| za <| zk <| zR <| zm rfl rfl <| z1 rfl (RdL.len Tryz.underlying52 rfl hb0) <| z1 rfl (runs_neI rfl rfl) <| zM <| zb rfl (fun hc16 => ?_) (fun hc16 => ?_)
    · have hcb16 := hc16; (try simp only [dY, dF] at hc16); refine zR <| zS rfl rfl <| zM <| CW.ret <| zr <| z9 rfl rfl ?_
      have hw : writeR S at_ b = (S, 1) := by unfold writeR; rw [if_neg (by omega), if_pos (by omega)]
      rw [hw]; exact ⟨I, _, Imm.le.refl I, rfl, hsh hst, hd0⟩
    · have hcb16 := hc16; (try simp only [dY, dF] at hc16)
      have hbl : b.length = 32 := by omega
      refine zj <| za <| zk <| zR <| zm rfl rfl <| z1 rfl (runs_nilCheck rfl) <| zp rfl rfl U62 rfl ti3 rfl <| zl 0 rfl sc3 rfl hst rfl rfl <| z1 rfl (runs_eqI rfl rfl) <| zM ?_; refine zb rfl (fun hc21 => ?_) (fun hc21 => ?_)
      · have hcb21 := hc21; (try simp only [dY, dF] at hc21); refine zR <| zm rfl rfl <| z1 rfl (runs_nilCheck rfl) <| zp rfl rfl U62 rfl ti4 rfl ?_; refine zy 0 ti4 rfl rfl hst rfl rfl rfl ?_; clear hst; rintro w hst; (try simp only [sZ, sS] at hst); refine zN <| zS rfl rfl <| zM <| CW.ret <| zr <| z9 rfl rfl ?_
        have hw : writeR S at_ b = ({ S with down := true }, 8) := by unfold writeR; rw [if_neg (by omega), if_neg (by omega), if_pos (by omega)]
        rw [hw]; obtain ⟨Ld', h1, h2⟩ := DiskO.shut (S := { S with down := true }) hst hgl hgp hok; exact ⟨I, Ld', Imm.le.refl I, rfl, h1, h2⟩
      · have hcb21 := hc21; (try simp only [dY, dF] at hc21); refine zj <| za <| zR <| zm rfl rfl <| zm rfl rfl <| z1 rfl (runs_nilCheck rfl) <| zp rfl rfl U62 rfl ti3 rfl <| zl 0 rfl sc3 rfl hst rfl rfl <| z1 rfl (runs_sub rfl rfl (by omega)) ?_; refine z1 rfl (runs_max rfl rfl) <| z1 rfl (runs_nilCheck rfl) <| zp rfl rfl U62 rfl ti3 rfl ?_; refine zy 0 ti3 rfl rfl hst rfl rfl rfl ?_; clear hst; rintro w hst; (try simp only [sZ, sS] at hst); refine zM <| zk ?_; refine CW.draw (fun _ => True) (.q 0 (.q 1 (.q 2 (.q 3 (.q 5 (.q 6 (.q 7 (.fork (.l 4 (.l 8 (.q 9 (.l 10 (.l 11 (.q 12 (.q 13 (.l 14 .nil)))))))) (.l 8 (.q 9 (.fork (.l 4 (.l 10 (.l 11 (.q 12 (.q 13 (.l 14 .nil)))))) (.l 10 (.l 4 (.l 11 (.q 12 (.q 13 (.l 14 .nil))))))))))))))))) follows (by kernel_rfl) trivial ?_; replace hst := hst.draw; refine ym rfl rfl rfl <| ym rfl rfl rfl <| yc rfl rfl rfl <| yp rfl rfl rfl U62 rfl ti60 rfl <| ym rfl rfl rfl <| ym rfl rfl rfl <| DRW.q rfl rfl (fun w' hF => runs_arrayAt Tryz.underlying76 rfl hb0 (by omega) (by decide) (by omega)) ?_; refine DRW.fork ?_ ?_
        · refine DRW.op1 rfl rfl (runs_load1 sc60 rfl (hst.cell_own (k := 0) rfl rfl)) trivial ?_; refine DRW.op1 rfl rfl (RdL.loadAt (row := b.map b8) ag76 ti76 rfl hb0 hst (by rw [List.length_map]; exact hbl) (fun j u hj => by rw [Nat.zero_add]; exact hj)) trivial ?_; refine DRW.q rfl rfl (fun w' hF => runs_buildF (cells := wrow (at_, b)) bz78 rfl rfl rfl rfl (bfill_w rfl rfl hbl)) ?_; refine DRW.opE rfl rfl (runs_litF (xs := [.agg (wrow (at_, b)).toArray]) Tryz.underlying60 ti78 (by decide) rfl rfl rfl (by simp [vcells, wrow, hbl]) (by simp only [List.flatMap_cons, List.flatMap_nil, List.append_nil, vcells]; exact wrow_all _) hst (by decide)) ?_; clear hst; rintro u4 w ⟨Lv4, hst, hg4⟩; refine ⟨trivial, ?_⟩; obtain ⟨J4, hJ4, hstn, h4⟩ := Grow.freeze hg4 hst; clear hst; have hst := hstn; clear hstn; replace hle := hle.trans hJ4; (try simp only [List.nil_append] at h4)
          replace h4 : RdL J4 33 u4 1 (wrow (at_, b)) := by
            have e : [Value.agg (wrow (at_, b)).toArray].flatMap vcells = wrow (at_, b) := by simp [vcells]
            rw [e] at h4; exact h4
          have hR := h4; refine DRW.opE rfl rfl (runs_appendR Tryz.underlying60 ti78 rfl (by decide) rfl rfl (hst.perm (perm_in _ Ls Lp L)) hgp hR (by omega) (by unfold maxLen; omega)) ?_; clear hst; rintro u5 w ⟨Lv5, hst, hg5⟩; refine ⟨trivial, ?_⟩; have hgN := hg5; replace hst := hst.perm (perm_in _ Ls Lv5 L).symm; refine yc rfl rfl rfl <| yp rfl rfl rfl U62 rfl ti60 rfl <| y0 rfl (runs_store1P ti60 rfl rfl hst (k := 0) rfl rfl (NoFz.zero _) (Grow.one hgN)) ?_; clear hst; rintro w hst; (try simp only [sZ, sS] at hst); refine ⟨trivial, ?_⟩; refine DRW.done <| za <| zR <| zS rfl rfl <| zM <| CW.ret <| z9 rfl rfl ?_
          have hw : writeR S at_ b = ({ S with left := if S.left - 1 > -1 then S.left - 1 else -1, pend := S.pend ++ [(at_, b)] }, 0) := by unfold writeR; rw [if_neg (by omega), if_neg (by omega), if_neg (by omega)]
          rw [hw]
          obtain ⟨Ld', h1, h2⟩ := DiskO.shut (S := { S with left := if S.left - 1 > -1 then S.left - 1 else -1, pend := S.pend ++ [(at_, b)] }) hst hgl (by dsimp only; rw [List.flatMap_append, List.length_append]; simpa using hgN) ⟨hok.1, hok.2.1, by
            intro p hp
            rcases List.mem_append.1 hp with h | h
            · exact hok.2.2.1 p h
            · rw [List.mem_singleton.1 h]; exact ⟨hbl, ha0, ha1⟩, by dsimp only; split <;> omega⟩
          exact ⟨_, Ld', hle, rfl, h1, h2⟩
        refine DRW.op1 rfl rfl (RdL.loadAt (row := b.map b8) ag76 ti76 rfl hb0 hst (by rw [List.length_map]; exact hbl) (fun j u hj => by rw [Nat.zero_add]; exact hj)) trivial ?_; refine DRW.q rfl rfl (fun w' hF => runs_buildF (cells := wrow (at_, b)) bz78 rfl rfl rfl rfl (bfill_w rfl rfl hbl)) ?_; refine DRW.fork ?_ ?_
        · refine DRW.op1 rfl rfl (runs_load1 sc60 rfl (hst.cell_own (k := 0) rfl rfl)) trivial ?_; refine DRW.opE rfl rfl (runs_litF (xs := [.agg (wrow (at_, b)).toArray]) Tryz.underlying60 ti78 (by decide) rfl rfl rfl (by simp [vcells, wrow, hbl]) (by simp only [List.flatMap_cons, List.flatMap_nil, List.append_nil, vcells]; exact wrow_all _) hst (by decide)) ?_; clear hst; rintro u7 w ⟨Lv7, hst, hg7⟩; refine ⟨trivial, ?_⟩; obtain ⟨J7, hJ7, hstn, h7⟩ := Grow.freeze hg7 hst; clear hst; have hst := hstn; clear hstn; replace hle := hle.trans hJ7; (try simp only [List.nil_append] at h7)
          replace h7 : RdL J7 33 u7 1 (wrow (at_, b)) := by
            have e : [Value.agg (wrow (at_, b)).toArray].flatMap vcells = wrow (at_, b) := by simp [vcells]
            rw [e] at h7; exact h7
          have hR := h7; refine DRW.opE rfl rfl (runs_appendR Tryz.underlying60 ti78 rfl (by decide) rfl rfl (hst.perm (perm_in _ Ls Lp L)) hgp hR (by omega) (by unfold maxLen; omega)) ?_; clear hst; rintro u8 w ⟨Lv8, hst, hg8⟩; refine ⟨trivial, ?_⟩; have hgN := hg8; replace hst := hst.perm (perm_in _ Ls Lv8 L).symm; refine yc rfl rfl rfl <| yp rfl rfl rfl U62 rfl ti60 rfl <| y0 rfl (runs_store1P ti60 rfl rfl hst (k := 0) rfl rfl (NoFz.zero _) (Grow.one hgN)) ?_; clear hst; rintro w hst; (try simp only [sZ, sS] at hst); refine ⟨trivial, ?_⟩; refine DRW.done <| za <| zR <| zS rfl rfl <| zM <| CW.ret <| z9 rfl rfl ?_
          have hw : writeR S at_ b = ({ S with left := if S.left - 1 > -1 then S.left - 1 else -1, pend := S.pend ++ [(at_, b)] }, 0) := by unfold writeR; rw [if_neg (by omega), if_neg (by omega), if_neg (by omega)]
          rw [hw]
          obtain ⟨Ld', h1, h2⟩ := DiskO.shut (S := { S with left := if S.left - 1 > -1 then S.left - 1 else -1, pend := S.pend ++ [(at_, b)] }) hst hgl (by dsimp only; rw [List.flatMap_append, List.length_append]; simpa using hgN) ⟨hok.1, hok.2.1, by
            intro p hp
            rcases List.mem_append.1 hp with h | h
            · exact hok.2.2.1 p h
            · rw [List.mem_singleton.1 h]; exact ⟨hbl, ha0, ha1⟩, by dsimp only; split <;> omega⟩
          exact ⟨_, Ld', hle, rfl, h1, h2⟩
        refine DRW.opE rfl rfl (runs_litF (xs := [.agg (wrow (at_, b)).toArray]) Tryz.underlying60 ti78 (by decide) rfl rfl rfl (by simp [vcells, wrow, hbl]) (by simp only [List.flatMap_cons, List.flatMap_nil, List.append_nil, vcells]; exact wrow_all _) hst (by decide)) ?_; clear hst; rintro u10 w ⟨Lv10, hst, hg10⟩; refine ⟨trivial, ?_⟩; obtain ⟨J10, hJ10, hstn, h10⟩ := Grow.freeze hg10 hst; clear hst; have hst := hstn; clear hstn; replace hle := hle.trans hJ10; (try simp only [List.nil_append] at h10)
        replace h10 : RdL J10 33 u10 1 (wrow (at_, b)) := by
          have e : [Value.agg (wrow (at_, b)).toArray].flatMap vcells = wrow (at_, b) := by simp [vcells]
          rw [e] at h10; exact h10
        have hR := h10; refine DRW.op1 rfl rfl (runs_load1 sc60 rfl (hst.cell_own (k := 0) rfl rfl)) trivial ?_; refine DRW.opE rfl rfl (runs_appendR Tryz.underlying60 ti78 rfl (by decide) rfl rfl (hst.perm (perm_in _ Ls Lp L)) hgp hR (by omega) (by unfold maxLen; omega)) ?_; clear hst; rintro u11 w ⟨Lv11, hst, hg11⟩; refine ⟨trivial, ?_⟩; have hgN := hg11; replace hst := hst.perm (perm_in _ Ls Lv11 L).symm; refine yc rfl rfl rfl <| yp rfl rfl rfl U62 rfl ti60 rfl <| y0 rfl (runs_store1P ti60 rfl rfl hst (k := 0) rfl rfl (NoFz.zero _) (Grow.one hgN)) ?_; clear hst; rintro w hst; (try simp only [sZ, sS] at hst); refine ⟨trivial, ?_⟩; refine DRW.done <| za <| zR <| zS rfl rfl <| zM <| CW.ret <| z9 rfl rfl ?_
        have hw : writeR S at_ b = ({ S with left := if S.left - 1 > -1 then S.left - 1 else -1, pend := S.pend ++ [(at_, b)] }, 0) := by unfold writeR; rw [if_neg (by omega), if_neg (by omega), if_neg (by omega)]
        rw [hw]
        obtain ⟨Ld', h1, h2⟩ := DiskO.shut (S := { S with left := if S.left - 1 > -1 then S.left - 1 else -1, pend := S.pend ++ [(at_, b)] }) hst hgl (by dsimp only; rw [List.flatMap_append, List.length_append]; simpa using hgN) ⟨hok.1, hok.2.1, by
          intro p hp
          rcases List.mem_append.1 hp with h | h
          · exact hok.2.2.1 p h
          · rw [List.mem_singleton.1 h]; exact ⟨hbl, ha0, ha1⟩, by dsimp only; split <;> omega⟩
        exact ⟨_, Ld', hle, rfl, h1, h2⟩
theorem flushTo_end {S : DS} {k : Nat} (h : S.pend.length ≤ k) : flushTo S k = S.pend.foldl (fun s p => s.set p.1.toNat p.2) S.secs := by
  unfold flushTo; rw [List.take_of_length_le h]
theorem crashTo_end {S : DS} {ks : List Int} {k : Nat} (h : S.pend.length ≤ k) : crashTo S ks k = (crashR S ks).secs := by
  unfold crashTo crashR; rw [List.take_of_length_le (by rw [List.length_zipIdx]; exact h)]
theorem rows_set2 {s : List (List UInt8)} (hs : ∀ x ∈ s, x.length = 32) {i : Nat} (hi : i < s.length) {b : List UInt8} (hb : b.length = 32) :
    (s.flatMap (·.map b8)).take (i * 32) ++ b.map b8 ++ (s.flatMap (·.map b8)).drop (i * 32 + (b.map b8).length) = (s.set i b).flatMap (·.map b8) :=
  rows_set (f := fun x : List UInt8 => x.map b8) (size := 32) s (fun x hx => by rw [List.length_map]; exact hs x hx) i b hi (by rw [List.length_map]; exact hb)
theorem rows_head {s : List (List UInt8)} (hs : ∀ x ∈ s, x.length = 32) {i : Nat} (hi : i < s.length) {b : List UInt8} (hb : b.length ≤ 32) :
    (s.flatMap (·.map b8)).take (i * 32) ++ b.map b8 ++ (s.flatMap (·.map b8)).drop (i * 32 + (b.map b8).length) = (s.set i (b ++ (s.getD i []).drop b.length)).flatMap (·.map b8) := by
  have hx : (s.getD i []).length = 32 := by
    rw [List.getD_eq_getElem?_getD, List.getElem?_eq_getElem hi, Option.getD_some]; exact hs _ (List.getElem_mem _)
  have h := rows_set2 hs hi (b := b ++ (s.getD i []).drop b.length) (by rw [List.length_append, List.length_drop, hx]; omega); rw [← h, List.map_append, List.length_append, List.length_map, List.length_map, List.length_drop, hx, List.append_assoc, List.append_assoc, List.append_assoc]
  congr 2
  have hrow : (s.flatMap (·.map b8)).drop (i * 32) = (s.getD i []).map b8 ++ (s.flatMap (·.map b8)).drop (i * 32 + 32) := by
    rw [← List.drop_drop]; have h2 := rows_set2 hs hi (b := s.getD i []) hx
    have e : s.set i (s.getD i []) = s := by
      rw [List.getD_eq_getElem?_getD, List.getElem?_eq_getElem hi, Option.getD_some, List.set_getElem_self]
    rw [e, List.length_map, hx] at h2; have h3 := congrArg (List.drop (i * 32)) h2
    have hl : ((s.flatMap (·.map b8)).take (i * 32)).length = i * 32 := by
      rw [List.length_take]
      have : (s.flatMap (·.map b8)).length = s.length * 32 := by
        clear hi hb h hx e h2 h3
        induction s with
        | nil => rfl
        | cons x r ih => rw [List.flatMap_cons, List.length_append, ih (fun y hy => hs y (List.mem_cons_of_mem _ hy)), List.length_map, hs x (List.mem_cons_self ..), List.length_cons]; omega
      rw [this]; have : (i + 1) * 32 ≤ s.length * 32 := Nat.mul_le_mul_right _ hi; omega
    rw [List.append_assoc, List.drop_append_of_le_length (by omega), List.drop_of_length_le (by omega), List.nil_append] at h3; rw [List.drop_drop]; exact h3.symm
  have h5 : (s.flatMap (·.map b8)).drop (i * 32 + b.length) = ((s.flatMap (·.map b8)).drop (i * 32)).drop b.length := by rw [List.drop_drop]
  rw [h5, hrow, List.drop_append_of_le_length (by rw [List.length_map, hx]; exact hb), List.map_drop]
  congr 3
  omega
set_option maxRecDepth 100000 in
set_option maxHeartbeats 1000000 in
theorem flush_spec {w0 w : World} {I : Imm} {L Ld : Own} {d : Value} {S : DS} (hd : DiskO d S Ld) (hst : St w0 w I (Ld ++ L)) :
    Calls Tryz.prog 42 #[d] w fun e w' => ∃ Ld', e = .returned (.int .i64 (flushR S).2) ∧ St w0 w' I (Ld' ++ L) ∧ DiskO d (flushR S).1 Ld' := by
  have hd0 := hd; obtain ⟨hb, vl, vp, Ls, Lp, rfl, hstn, hgl, hgp, hok, hsh⟩ := hd.opn hst; clear hst; have hst := hstn; clear hstn; refine enter Tryz.func42 rfl (N := 31) rfl rfl ?_
  simp only [zA, zB, zC, zD, zE, Nat.reduceAdd]
  have hle := Imm.le.refl I; refine zR <| zS rfl rfl <| zM <| zk <| zR <| zm rfl rfl <| z1 rfl (runs_nilCheck rfl) <| zp rfl rfl U62 rfl ti4 rfl <| zl 0 rfl sc4 rfl hst rfl rfl <| zM ?_; refine zb rfl (fun hc8 => ?_) (fun hc8 => ?_)
  · have hcb8 := hc8; (try simp only [dY, dF] at hc8); refine zR <| zS rfl rfl <| zM <| CW.ret <| zr <| z9 rfl rfl ?_
    have hw : flushR S = (S, 8) := by unfold flushR; rw [if_pos (by assumption)]
    rw [hw]; exact ⟨_, rfl, hsh hst, hd0⟩
  · have hcb8 := hc8; (try simp only [dY, dF] at hc8); refine zj <| za <| zk <| zR <| zm rfl rfl <| z1 rfl (runs_nilCheck rfl) <| zp rfl rfl U62 rfl ti60 rfl <| zl 0 rfl sc60 rfl hst rfl rfl <| z1 rfl (Grow.len Tryz.underlying60 rfl (by assumption)) ?_; refine zm rfl rfl <| zM <| CW.block <| CW.loop (Nat × Own) (fun x w => St w0 w I ((hb, .cells #[vl, vp, .int .i64 S.left, .bool S.down] 62) :: (x.2 ++ (Lp ++ L))) ∧ Grow 76 32 vl S.secs.length ((flushTo S x.1).flatMap (·.map b8)) x.2 ∧ x.1 ≤ S.pend.length) (fun x => [(0, .pointer (some ⟨hb, 0, none⟩)), (12, vp), (13, .int .i64 (S.pend.length : Nat)), (14, .int .i64 (x.1 : Int))]) (fun x => S.pend.length - x.1) ⟨(0, Ls), ⟨hst, hgl, Nat.zero_le _⟩, ⟨rfl, rfl, rfl, rfl, trivial⟩⟩ ?_; clear hgl; rintro ⟨k, Ls1⟩ w ⟨hstn, hgl, hk⟩; dsimp only at hstn hgl hk ⊢; clear hst; have hst := hstn; clear hstn; refine zR <| z1 rfl (runs_lss rfl rfl) <| zM <| zk <| zb rfl (fun hc15 => ?_) (fun hc15 => ?_)
    · have hcb15 := hc15; (try simp only [dY, dF] at hc15); have hpn := Grow.lt hgp; unfold maxLen at hpn
      have hk1 : k < S.pend.length := by omega
      obtain ⟨p, hp⟩ : ∃ p, S.pend[k] = p := ⟨_, rfl⟩
      have hp2 : S.pend[k]? = some p := by rw [List.getElem?_eq_getElem hk1, hp]
      obtain ⟨hpl, hpa, hpb⟩ := hok.2.2.1 p (List.mem_of_getElem? hp2); obtain ⟨hfl, hfs⟩ := flushTo_ok hok k; have hnx := flushTo_next hp2; have hmul := Nat.mul_le_mul_right 32 (show p.1.toNat + 1 ≤ S.secs.length by omega); refine zj <| za <| zk <| CW.block <| zR <| z1 rfl (Grow.indexAddr Tryz.underlying60 ti78 hgp rfl rfl (by omega)) ?_; refine z1 rfl (Grow.loadAt (row := wrow p) ag78 ti78 hgp rfl hst (fun p hp => by simp [hp]) (wrow_len hpl) (row_at (f := wrow) (fun q hq => wrow_len (hok.2.2.1 q hq).1) hp2)) ?_; refine ze rfl (runs_alloc ti78 hst) ?_; clear hst; rintro _ w ⟨b1, rfl, hst⟩; refine z0 (runs_storeW ti78 rfl rfl hst (k := 0) rfl (wrow_len hpl) rfl (NoFz.zero _) (wrow_all _)) ?_; clear hst; rintro w hst; (try simp only [sZ, sS] at hst); refine zM ?_; refine CW.draw (FSt w0 I ((b1, .cells (wrow p).toArray 78) :: (hb, .cells #[vl, vp, .int .i64 S.left, .bool S.down] 62) :: (Lp ++ L))) (.q 0 (.q 1 (.q 2 (.q 3 (.q 4 (.q 5 (.q 6 (.q 7 (.q 8 (.l 9 .nil)))))))))) follows (by kernel_rfl) ⟨_, Imm.le.refl _, hst.draw.sub (((List.sublist_append_right _ _).cons_cons _).cons_cons _)⟩ ?_; replace hst := hst.draw; refine ym rfl rfl rfl <| yc rfl rfl rfl <| yp rfl rfl rfl U62 rfl ti59 rfl <| yl 1 rfl rfl sc59 rfl rfl rfl <| yp rfl rfl rfl U78 rfl ti3 rfl <| DRW.q rfl rfl (FSt.load1_own (v := .int .i64 p.1) sc3 rfl (k := 0) rfl rfl) ?_; refine yp rfl rfl rfl U78 rfl ti76 rfl <| DRW.q rfl rfl (FSt.loadN (vs := p.2.map b8) ag76 ti76 rfl (k := 0) rfl (by show (p.2.map b8).take 32 = _; exact List.take_of_length_le (by rw [List.length_map]; omega)) (by rw [List.length_map]; exact hpl)) ?_; refine DRW.q rfl rfl (fun w' hF => Grow.indexAddr Tryz.underlying59 ti76 hgl rfl rfl (by omega)) ?_; refine y0 rfl (Grow.storeAt (L1 := [(b1, _), (hb, .cells #[vl, vp, .int .i64 S.left, .bool S.down] 62)]) ti76 hgl rfl rfl hst (by rw [List.length_map]; exact hpl) (by omega) (by omega) (b8_one _)) ?_; clear hst; rintro w ⟨Ls3, hst, hgn⟩; (try simp only [sZ, sS] at hst); refine ⟨FSt.of hst (Imm.le.refl _) (((List.sublist_append_right _ _).cons_cons _).cons_cons _), ?_⟩; refine DRW.done <| zh <| za <| zg <| z1 rfl (runs_add rfl rfl (by omega)) ?_; refine zm rfl rfl <| zd ?_; rw [rows_set2 hfs (by omega) hpl, ← hnx] at hgn; exact AQ.again (x := (k, Ls1)) (k + 1, _) ⟨hst.drop1, hgn, by omega⟩ ⟨rfl, rfl, rfl, rfl, trivial⟩ (by dsimp only; omega)
    · have hcb15 := hc15; (try simp only [dY, dF] at hc15); refine CW.exit ?_; refine AQ.past_exit <| AQ.past_exit <| AQ.block_hit <| za <| zR <| zm rfl rfl <| z1 rfl (runs_nilCheck rfl) <| zp rfl rfl U62 rfl ti60 rfl ?_; refine zy 0 ti60 rfl rfl hst rfl rfl rfl ?_; clear hst; rintro w hst; (try simp only [sZ, sS] at hst); refine zN <| zS rfl rfl <| zM <| CW.ret <| z9 rfl rfl ?_
      have hw : flushR S = ({ S with secs := S.pend.foldl (fun s p => s.set p.1.toNat p.2) S.secs, pend := [] }, 0) := by unfold flushR; rw [if_neg (by rw [hcb8]; decide)]
      have hke := flushTo_end (S := S) (k := k) (by omega); obtain ⟨hfl, hfs⟩ := flushTo_ok hok k; rw [hke] at hgl hfl hfs; rw [hw]
      obtain ⟨Ld', h1, h2⟩ := DiskO.shut (S := { S with secs := S.pend.foldl (fun s p => s.set p.1.toNat p.2) S.secs, pend := [] }) (Lp := []) (by
        exact hst.sub (((List.Sublist.refl _).append (List.sublist_append_right _ _)).cons_cons _)) (by dsimp only; rw [hfl]; exact hgl) (Grow.nil _ _) ⟨by dsimp only; rw [hfl]; exact hok.1, hfs, by simp, hok.2.2.2⟩
      exact ⟨Ld', rfl, h1, h2⟩
set_option maxRecDepth 100000 in
set_option maxHeartbeats 1000000 in
theorem crash_spec {w0 w : World} {I : Imm} {L Ld : Own} {d : Value} {S : DS} (hd : DiskO d S Ld) (hst : St w0 w I (Ld ++ L)) {vk : Value} {ks : List Int} (hk0 : RdI I vk ks) :
    Calls Tryz.prog 17 #[d, vk] w fun e w' => ∃ Ld', e = .returned (.tuple #[]) ∧ St w0 w' I (Ld' ++ L) ∧ DiskO d (crashR S ks) Ld' := by
  have hd0 := hd; obtain ⟨hb, vl, vp, Ls, Lp, rfl, hstn, hgl, hgp, hok, hsh⟩ := hd.opn hst; clear hst; have hst := hstn; clear hstn; refine enter Tryz.func17 rfl (N := 49) rfl rfl ?_
  simp only [zA, zB, zC, zD, zE, Nat.reduceAdd]
  have hle := Imm.le.refl I; refine zk <| zR <| zm rfl rfl <| z1 rfl (runs_nilCheck rfl) <| zp rfl rfl U62 rfl ti60 rfl <| zl 0 rfl sc60 rfl hst rfl rfl <| z1 rfl (Grow.len Tryz.underlying60 rfl (by assumption)) ?_; refine zm rfl rfl <| zM <| CW.block <| CW.loop (Nat × Own) (fun x w => St w0 w I ((hb, .cells #[vl, vp, .int .i64 S.left, .bool S.down] 62) :: (x.2 ++ (Lp ++ L))) ∧ Grow 76 32 vl S.secs.length ((crashTo S ks x.1).flatMap (·.map b8)) x.2 ∧ x.1 ≤ S.pend.length) (fun x => [(0, .pointer (some ⟨hb, 0, none⟩)), (1, vk), (10, vp), (11, .int .i64 (S.pend.length : Nat)), (12, .int .i64 (x.1 : Int))]) (fun x => S.pend.length - x.1) ⟨(0, Ls), ⟨hst, hgl, Nat.zero_le _⟩, ⟨rfl, rfl, rfl, rfl, rfl, trivial⟩⟩ ?_; clear hgl; rintro ⟨k, Ls1⟩ w ⟨hstn, hgl, hk⟩; dsimp only at hstn hgl hk ⊢; clear hst; have hst := hstn; clear hstn; refine zR <| z1 rfl (runs_lss rfl rfl) <| zM <| zk <| zb rfl (fun hc13 => ?_) (fun hc13 => ?_)
  · have hcb13 := hc13; (try simp only [dY, dF] at hc13); have hpn := Grow.lt hgp; unfold maxLen at hpn
    have hk1 : k < S.pend.length := by omega
    obtain ⟨p, hp⟩ : ∃ p, S.pend[k] = p := ⟨_, rfl⟩
    have hp2 : S.pend[k]? = some p := by rw [List.getElem?_eq_getElem hk1, hp]
    obtain ⟨hpl, hpa, hpb⟩ := hok.2.2.1 p (List.mem_of_getElem? hp2); obtain ⟨hfl, hfs⟩ := crashTo_ok hok ks k; have hnx := crashTo_next (ks := ks) hp2; have hkn := keepN_le ks k; have hmul := Nat.mul_le_mul_right 32 (show p.1.toNat + 1 ≤ S.secs.length by omega); refine zj <| za <| zk <| CW.block <| zR <| zm rfl rfl <| z1 rfl (Grow.indexAddr Tryz.underlying60 ti78 hgp rfl rfl (by omega)) ?_; refine z1 rfl (Grow.loadAt (row := wrow p) ag78 ti78 hgp rfl hst (fun p hp => by simp [hp]) (wrow_len hpl) (row_at (f := wrow) (fun q hq => wrow_len (hok.2.2.1 q hq).1) hp2)) ?_; refine ze rfl (runs_alloc ti78 hst) ?_; clear hst; rintro _ w ⟨b1, rfl, hst⟩; refine zS rfl rfl <| z0 (runs_storeW ti78 rfl rfl hst (k := 0) rfl (wrow_len hpl) rfl (NoFz.zero _) (wrow_all _)) ?_; clear hst; rintro w hst; (try simp only [sZ, sS] at hst); refine zN <| zS rfl rfl <| zM <| zk <| zR <| zm rfl rfl <| zm rfl rfl <| z1 rfl (RdL.len Tryz.underlying22 rfl hk0) <| z1 rfl (runs_lss rfl rfl) <| zM ?_; refine zX Unit (fun _ w => St w0 w I ((b1, .cells (wrow p).toArray 78) :: (hb, .cells #[vl, vp, .int .i64 S.left, .bool S.down] 62) :: (Ls1 ++ (Lp ++ L)))) (fun _ => [(0, .pointer (some ⟨hb, 0, none⟩)), (1, vk), (5, .pointer (some ⟨b1, 0, none⟩)), (6, .int .i64 ((keepN ks k : Nat) : Int)), (10, vp), (11, .int .i64 (S.pend.length : Nat)), (12, .int .i64 (k : Int))]) ?_ ?_
    · refine zb rfl (fun hc20 => ?_) (fun hc20 => ?_)
      · have hcb20 := hc20; (try simp only [dY, dF] at hc20); refine zg <| zm rfl rfl <| zm rfl rfl <| z1 rfl (RdL.indexAddr Tryz.underlying22 ti3 (by decide) rfl rfl hk0 (by omega)) ?_; refine z1 rfl (runs_load1 sc3 rfl (hst.cell_imm (RdI.at hk0 (by omega) (by omega)))) ?_; refine zK rfl call35 rfl rfl (kept_spec hst (iat ks (k : Int))) ?_; clear hst; rintro e w ⟨rfl, hst⟩; refine ⟨_, rfl, ?_⟩; refine zS rfl rfl <| zd ?_; exact zv () hst ⟨rfl, rfl, rfl, (by unfold keepN; first | (rw [if_pos (by omega)]; show some (Value.int .i64 (keptR (iat ks (k : Int)))) = _; rw [show iat ks (k : Int) = ks.getD k 0 from rfl]; congr 2; unfold keptR; (repeat' split) <;> rfl) | (rw [if_neg (by omega)]; rfl)), rfl, rfl, rfl, trivial⟩
      · have hcb20 := hc20; (try simp only [dY, dF] at hc20); refine zj ?_; exact zv () hst ⟨rfl, rfl, rfl, (by unfold keepN; first | (rw [if_pos (by omega)]; show some (Value.int .i64 (keptR (iat ks (k : Int)))) = _; rw [show iat ks (k : Int) = ks.getD k 0 from rfl]; congr 2; unfold keptR; (repeat' split) <;> rfl) | (rw [if_neg (by omega)]; rfl)), rfl, rfl, rfl, trivial⟩
    · clear hst; rintro _ w hst; refine za ?_; refine CW.draw (FSt w0 I ((b1, .cells (wrow p).toArray 78) :: (hb, .cells #[vl, vp, .int .i64 S.left, .bool S.down] 62) :: (Lp ++ L))) (.q 0 (.q 1 (.q 2 (.q 3 (.q 4 (.q 5 (.q 6 (.q 7 (.q 8 (.q 9 (.q 10 (.q 11 (.l 12 .nil))))))))))))) follows (by kernel_rfl) ⟨_, Imm.le.refl _, hst.draw.sub (((List.sublist_append_right _ _).cons_cons _).cons_cons _)⟩ ?_; replace hst := hst.draw; refine ym rfl rfl rfl <| yc rfl rfl rfl <| yp rfl rfl rfl U62 rfl ti59 rfl <| yl 1 rfl rfl sc59 rfl rfl rfl <| yp rfl rfl rfl U78 rfl ti3 rfl <| DRW.q rfl rfl (FSt.load1_own (v := .int .i64 p.1) sc3 rfl (k := 0) rfl rfl) ?_; refine DRW.q rfl rfl (fun w' hF => Grow.indexAddr Tryz.underlying59 ti76 hgl rfl rfl (by omega)) ?_; refine ym rfl rfl rfl <| DRW.q rfl rfl (fun w' hF => runs_sliceA_h Tryz.underlying76 ti5 rfl rfl (by omega)) ?_; refine yp rfl rfl rfl U78 rfl ti76 rfl <| ym rfl rfl rfl <| DRW.q rfl rfl (fun w' hF => runs_sliceA_h Tryz.underlying76 ti5 rfl rfl (by omega)) ?_
      refine DRW.opE rfl rfl (Grow.copyAt (L1 := [(b1, _), (hb, .cells #[vl, vp, .int .i64 S.left, .bool S.down] 62)]) (cs := (p.2.take (keepN ks k)).map b8) Tryz.underlying52 ti5 hgl rfl rfl hst (by rw [List.length_map, List.length_take]; omega) (Nat.le_refl _) (by
            intro j u hj; rw [add_lit]; refine hst.cell_own (k := 0) rfl ?_; rw [List.map_take, List.getElem?_take] at hj
            split at hj
            · show (wrow p).toArray[1 + j]? = some u
              rw [Nat.add_comm]
              simpa [wrow] using hj
            · cases hj) (by omega) (by omega) (b8_one _)) ?_
      clear hst; rintro _ w ⟨Ls4, hst, hgn⟩; refine ⟨FSt.of hst (Imm.le.refl _) (((List.sublist_append_right _ _).cons_cons _).cons_cons _), ?_⟩; refine DRW.done <| zh <| za <| zg <| z1 rfl (runs_add rfl rfl (by omega)) ?_; refine zm rfl rfl <| zd ?_; rw [rows_head hfs (by omega) (by rw [List.length_take]; omega), List.length_take, Nat.min_eq_left (by omega)] at hgn; rw [show (crashTo S ks k).set p.1.toNat (p.2.take (keepN ks k) ++ ((crashTo S ks k).getD p.1.toNat []).drop (keepN ks k)) = crashTo S ks (k + 1) from hnx.symm] at hgn; exact AQ.again (x := (k, Ls1)) (k + 1, _) ⟨hst.drop1, hgn, by omega⟩ ⟨rfl, rfl, rfl, rfl, rfl, trivial⟩ (by dsimp only; omega)
  · have hcb13 := hc13; (try simp only [dY, dF] at hc13); refine CW.exit ?_; refine AQ.past_exit <| AQ.past_exit <| AQ.block_hit <| za <| zg <| zm rfl rfl <| zm rfl rfl <| zm rfl rfl <| z1 rfl (runs_nilCheck rfl) <| zp rfl rfl U62 rfl ti60 rfl ?_; refine zy 0 ti60 rfl rfl hst rfl rfl rfl ?_; clear hst; rintro w hst; (try simp only [sZ, sS] at hst); refine z1 rfl (runs_nilCheck rfl) <| zp rfl rfl U62 rfl ti3 rfl ?_; refine zy 0 ti3 rfl rfl hst rfl rfl rfl ?_; clear hst; rintro w hst; (try simp only [sZ, sS] at hst); refine z1 rfl (runs_nilCheck rfl) <| zp rfl rfl U62 rfl ti4 rfl ?_; refine zy 0 ti4 rfl rfl hst rfl rfl rfl ?_; clear hst; rintro w hst; (try simp only [sZ, sS] at hst); refine zd <| AQ.end0 rfl ?_; have hke := crashTo_end (S := S) (ks := ks) (k := k) (by omega); obtain ⟨hfl, hfs⟩ := crashTo_ok hok ks k; rw [hke] at hgl hfl hfs
    obtain ⟨Ld', h1, h2⟩ := DiskO.shut (S := crashR S ks) (Lp := []) (by
      exact hst.sub (((List.Sublist.refl _).append (List.sublist_append_right _ _)).cons_cons _)) (by rw [hfl]; exact hgl) (Grow.nil _ _) ⟨by rw [hfl]; exact hok.1, hfs, by unfold crashR; simp, (show -1 ≤ (-1 : Int) ∧ (-1 : Int) ≤ 9223372036854775807 by decide)⟩
    exact ⟨Ld', rfl, h1, h2⟩
theorem Grow.src {w0 w : World} {I : Imm} {L : Own} {e : TypeId} {size n : Nat} {v : Value} {xs : List Value} {Lv : Own} (hg : Grow e size v n xs Lv) (hst : St w0 w I L) (hsub : ∀ p ∈ Lv, p ∈ L) : ∃ A c, v = .slice A n c ∧ (A = none → n = 0) ∧ ∀ j u, xs[j]? = some u → ∃ a, A = some a ∧ w.cell? (a.add j) = some u := by
  have hc := fun j u (hj : xs[j]? = some u) => hg.cell hst hsub hj
  obtain ⟨h1, h0, ⟨rfl, rfl, rfl⟩ | ⟨g, cap, cur, rfl, rfl, h3, h4, h5, h6⟩⟩ := hg
  · refine ⟨none, 0, rfl, fun _ => rfl, fun j u hj => ?_⟩; have : xs = [] := List.eq_nil_of_length_eq_zero (by simpa using h1); subst this
    cases hj
  · exact ⟨_, cap, rfl, fun h => (by cases h), fun j u hj => ⟨_, rfl, hc j u hj⟩⟩
theorem may_down {S : DS} {a : Int} (h : S.down = true) : mayR S a = 8 := by unfold mayR; rw [if_pos h]
theorem may_in {S : DS} {a : Int} (h : S.down = false) (h0 : 0 ≤ a) (h1 : a < S.secs.length) : mayR S a = 0 := by unfold mayR; rw [if_neg (by rw [h]; decide), if_neg (by omega)]
theorem write_ok {S : DS} {a : Int} {b : List UInt8} (h : mayR S a = 0) (hb : b.length = 32) (hl : S.left ≠ 0) : writeR S a b = ({ S with left := if S.left - 1 > -1 then S.left - 1 else -1, pend := S.pend ++ [(a, b)] }, 0) := by unfold writeR; rw [if_neg (by rw [h]; decide), if_neg (by rw [hb]; decide), if_neg hl]
set_option maxRecDepth 100000 in
set_option maxHeartbeats 1000000 in
theorem sum_spec {w0 w : World} {I : Imm} {L : Own} (hst : St w0 w I L) {v : Value} {bs : List UInt8} (hv : RdB I v bs) (hb : bs.length ≤ 140737488355328) :
    Calls Tryz.prog 128 #[v] w fun e w' => e = .returned (.int .u32 ((sumN bs : Nat) : Int)) ∧ St w0 w' I L := by
  refine enter Tryz.func128 rfl (N := 31) rfl rfl ?_
  simp only [zA, zB, zC, zD, zE, Nat.reduceAdd]
  have hle := Imm.le.refl I; refine zR <| zS rfl rfl <| zN <| zS rfl rfl <| zM <| zk <| zR <| zm rfl rfl <| z1 rfl (RdL.len Tryz.underlying52 rfl hv) <| zm rfl rfl ?_; refine zM <| CW.block ?_; refine CW.loop Nat (fun k w => St w0 w I L ∧ k ≤ bs.length) (fun k => [(3, .int .u32 ((crcTo bs k : Nat) : Int)), (7, v), (8, .int .i64 (bs.length : Nat)), (9, .int .i64 (k : Int))]) (fun k => bs.length - k) ⟨0, ⟨hst, Nat.zero_le _⟩, ⟨rfl, rfl, rfl, rfl, trivial⟩⟩ ?_; clear hst; rintro k w ⟨hst, hk⟩; refine zR <| z1 rfl (runs_lss rfl rfl) <| zM <| zk <| zb rfl (fun hc10 => ?_) (fun hc10 => ?_)
  · have hcb10 := hc10; (try simp only [dY, dF] at hc10)
    have hk1 : k < bs.length := by omega
    obtain ⟨c, hc⟩ : ∃ c, bs[k] = c := ⟨_, rfl⟩; have hcl := c.toNat_lt; have hx := crcTo_lt bs k; have hnx := crcTo_next hk1; rw [hc] at hnx
    have hbat : bat bs (k : Int) = (c.toNat : Int) := by unfold bat; simp [hk1, hc]
    refine zj <| za <| zk <| CW.block <| zR <| z1 rfl (RdL.indexAddr Tryz.underlying52 ti5 (by decide) rfl rfl hv (by omega)) ?_; refine z1 rfl (runs_load1 sc5 rfl (hst.cell_imm (RdB.at hv (by omega) (by omega)))) ?_; rw [hbat]; refine zS rfl rfl <| zN <| zm rfl rfl <| zm rfl rfl <| z1 rfl (runs_convI (by rw [Tryz.underlying5]; rfl) Tryz.underlying182 rfl) ?_; rw [show IntKind.u32.wrap (c.toNat : Int) = (c.toNat : Int) by rw [IntKind.wrap_u32]; omega]; refine z1 rfl (runs_xor rfl rfl) ?_; rw [xor32 hx (show c.toNat < 4294967296 by omega)]; refine zS rfl rfl <| zN <| zm rfl rfl <| zM <| CW.block <| CW.loop Nat (fun j w => St w0 w I L ∧ j ≤ 8) (fun j => [(3, .int .u32 ((crcBits j (crcTo bs k ^^^ c.toNat) : Nat) : Int)), (7, v), (8, .int .i64 (bs.length : Nat)), (9, .int .i64 (k : Int)), (17, .int .i64 (j : Int))]) (fun j => 8 - j) ⟨0, ⟨hst, Nat.zero_le _⟩, ⟨rfl, rfl, rfl, rfl, rfl, trivial⟩⟩ ?_; clear hst; rintro j w ⟨hst, hj⟩; refine zR <| z1 rfl (runs_lss rfl rfl) <| zM <| zk <| zb rfl (fun hc18 => ?_) (fun hc18 => ?_)
    · have hcb18 := hc18; (try simp only [dY, dF] at hc18)
      have hj1 : j < 8 := by omega
      have hbl := crcBits_lt j (xor_lt32 hx (show c.toNat < 4294967296 by omega)); have hsc := crcBits_succ j (crcTo bs k ^^^ c.toNat)
      generalize crcBits j (crcTo bs k ^^^ c.toNat) = y at hbl hsc ⊢
      refine zj <| za <| zk <| CW.block <| zR <| zm rfl rfl <| z1 rfl (runs_and rfl rfl) ?_; rw [and1_32 hbl]; refine zS rfl rfl <| zN <| zm rfl rfl <| z1 rfl (runs_shrE (n := 1) rfl rfl (by decide)) ?_; rw [show ((y : Nat) : Int) / 2 ^ 1 = ((y / 2 : Nat) : Int) from rfl]; refine zS rfl rfl <| zN <| zm rfl rfl <| z1 rfl (runs_eqI rfl rfl) <| zM <| zb rfl (fun hc24 => ?_) (fun hc24 => ?_)
      · have hcb24 := hc24; (try simp only [dY, dF] at hc24)
        have hcb : crcBit y = (y / 2) ^^^ polyN := by unfold crcBit; rw [if_pos (by omega)]
        refine zg <| zm rfl rfl <| z1 rfl (runs_xor (b := ((polyN : Nat) : Int)) rfl rfl) ?_; rw [xor32 (by omega) (by decide)]; refine zS rfl rfl <| zd <| zh <| za <| zg <| z1 rfl (runs_add rfl rfl (by omega)) ?_; refine zm rfl rfl <| zd ?_; exact AQ.again (x := j) (j + 1) ⟨hst, by omega⟩ ⟨by rw [hsc, hcb]; rfl, rfl, rfl, rfl, rfl, trivial⟩ (by omega)
      · have hcb24 := hc24; (try simp only [dY, dF] at hc24)
        have hcb : crcBit y = y / 2 := by unfold crcBit; rw [if_neg (by omega)]
        refine zj <| zh <| za <| zg <| z1 rfl (runs_add rfl rfl (by omega)) ?_; refine zm rfl rfl <| zd ?_; exact AQ.again (x := j) (j + 1) ⟨hst, by omega⟩ ⟨by rw [hsc, hcb]; rfl, rfl, rfl, rfl, rfl, trivial⟩ (by omega)
    · have hcb18 := hc18; (try simp only [dY, dF] at hc18); refine CW.exit ?_; refine AQ.past_exit <| AQ.past_exit <| AQ.block_hit <| zh <| za <| zg <| z1 rfl (runs_add rfl rfl (by omega)) ?_; refine zm rfl rfl <| zd ?_
      have hj8 : j = 8 := by omega
      subst hj8; exact AQ.again (x := k) (k + 1) ⟨hst, by omega⟩ ⟨by rw [hnx]; rfl, rfl, rfl, rfl, trivial⟩ (by omega)
  · have hcb10 := hc10; (try simp only [dY, dF] at hc10); refine CW.exit ?_; refine AQ.past_exit <| AQ.past_exit <| AQ.block_hit <| za <| zR ?_; have hke := crcTo_end (bs := bs) (k := k) (by omega); have hx := crcTo_lt bs k; rw [hke] at hx ⊢; refine zm rfl rfl <| z1 rfl (runs_xor (b := ((onesN : Nat) : Int)) rfl rfl) ?_; rw [xor32 hx (by decide)]; refine zS rfl rfl <| zM <| CW.ret <| z9 rfl rfl ?_; exact ⟨rfl, hst⟩
set_option maxRecDepth 100000 in
set_option maxHeartbeats 1000000 in
theorem need_spec {w0 w : World} {I : Imm} {L : Own} (hst : St w0 w I L) {v : Value} {bs : List UInt8} (hv : RdB I v bs) (hb : bs.length ≤ 140737488355328) :
    Calls Tryz.prog 112 #[v] w fun e w' => e = .returned (.int .i64 ((needN bs.length : Nat) : Int)) ∧ St w0 w' I L := by
  refine enter Tryz.func112 rfl (N := 9) rfl rfl ?_
  simp only [zA, zB, zC, zD, zE, Nat.reduceAdd]
  have hle := Imm.le.refl I; refine zR <| zS rfl rfl <| zN <| zm rfl rfl <| z1 rfl (RdL.len Tryz.underlying52 rfl hv) <| z1 rfl (runs_add rfl rfl (by omega)) ?_; refine z1 rfl (runs_add rfl rfl (by omega)) ?_; refine z1 rfl (runs_sub rfl rfl (by omega)) ?_; refine z1 rfl (runs_quo rfl rfl (by omega)) ?_
  rw [show (4 + ((bs.length : Nat) : Int) + 19 - 1).tdiv 19 = ((needN bs.length : Nat) : Int) from by
    rw [show (4 + ((bs.length : Nat) : Int) + 19 - 1) = ((bs.length + 22 : Nat) : Int) by omega]
    rfl, wrap_i64 (by unfold needN; omega)]
  refine zS rfl rfl <| zM <| CW.ret <| z9 rfl rfl ?_; exact ⟨rfl, hst⟩
set_option maxRecDepth 100000 in
set_option maxHeartbeats 1000000 in
theorem whole_spec {w0 w : World} {I : Imm} {L : Own} (hst : St w0 w I L) {v : Value} {bs : List UInt8} (hv : RdB I v bs) (hb : bs.length ≤ 1000000) :
    Calls Tryz.prog 114 #[v] w fun e w' => ∃ I' v', Imm.le I I' ∧ e = .returned v' ∧ St w0 w' I' L ∧ RdB I' v' (wholeB bs) := by
  refine enter Tryz.func114 rfl (N := 20) rfl rfl ?_
  simp only [zA, zB, zC, zD, zE, Nat.reduceAdd]
  have hle := Imm.le.refl I; refine zR <| zS rfl rfl <| zN <| zm rfl rfl <| zK rfl call128 rfl rfl (sum_spec hst hv (by omega)) ?_; clear hst; rintro e w ⟨rfl, hst⟩; have hsl := sumN_lt bs; refine ⟨_, rfl, ?_⟩; refine zS rfl rfl <| zN <| zm rfl rfl <| z1 rfl (runs_shrE (n := 24) rfl rfl (by decide)) ?_; refine z1 rfl (runs_convB (by rw [Tryz.underlying182]; rfl) Tryz.underlying5 rfl) ?_; refine zm rfl rfl <| z1 rfl (runs_shrE (n := 16) rfl rfl (by decide)) ?_; refine z1 rfl (runs_convB (by rw [Tryz.underlying182]; rfl) Tryz.underlying5 rfl) ?_; refine zm rfl rfl <| z1 rfl (runs_shrE (n := 8) rfl rfl (by decide)) ?_; refine z1 rfl (runs_convB (by rw [Tryz.underlying182]; rfl) Tryz.underlying5 rfl) ?_; refine zm rfl rfl <| z1 rfl (runs_convB (by rw [Tryz.underlying182]; rfl) Tryz.underlying5 rfl) ?_; refine ze rfl (runs_lit1 (xs := (sumB bs).map b8) Tryz.underlying52 ti5 (by decide) rfl rfl rfl (b8_one _) hst) ?_; clear hst; rintro u2 w ⟨Lv2, hst, hg2⟩; have hgS : GrowB 5 u2 (sumB bs) Lv2 := hg2; refine zm rfl rfl <| ze rfl (runs_appendB Tryz.underlying52 ti5 rfl rfl hst hgS hv (by show 4 + bs.length ≤ _; omega)) ?_; clear hst; rintro u3 w ⟨Lv3, hst, hg3⟩; obtain ⟨J3, hJ3, hstn, h3⟩ := Grow.freeze hg3 hst; clear hst; have hst := hstn; clear hstn; replace hle := hle.trans hJ3; (try simp only [List.nil_append] at h3); have hW := h3; refine zS rfl rfl <| zM <| CW.ret <| z9 rfl rfl ?_; exact ⟨_, _, hle, rfl, hst, hW⟩
theorem seal_may (e q : Int) : sealM e q 0 1 [] = mayM e q := by
  unfold sealM
  simp
theorem seal_part {e q : Int} {b : List UInt8} (hm : mayM e q = true) (hn : needN b.length ≤ 255) {k : Nat} (hk : k < needN b.length) : sealM e q (k : Int) (needN b.length : Nat) (partB b k) = true := by
  have := partB_len b k; unfold sealM; rw [hm]
  simp
  omega
structure FwR (S : DS) (at_ e q : Int) (b : List UInt8) (S' : DS) (next er : Int) : Prop where
  out : if mayM e q = false ∨ 255 < needN b.length then S' = S ∧ next = 0 ∧ er = 1 else
  if at_ < 0 ∨ (S.secs.length : Int) - (needN b.length : Nat) < at_ then S' = S ∧ next = 0 ∧ er = 9 else PutEnds S at_ (secB e q b) (needN b.length) S' next er
theorem rest_next {b : List UInt8} {k m : Nat} (hm : m = 19 ∧ 19 ≤ ((wholeB b).drop (19 * k)).length ∨ m = ((wholeB b).drop (19 * k)).length ∧ m < 19) : (((wholeB b).drop (19 * k)).drop m).take (((wholeB b).drop (19 * k)).length - m) = (wholeB b).drop (19 * (k + 1)) := by
  rw [List.take_of_length_le (by rw [List.length_drop]; exact Nat.le_refl _), List.drop_drop]
  rcases hm with ⟨rfl, h⟩ | ⟨h1, h2⟩
  · rw [Nat.mul_add]
  · rw [List.length_drop] at h1; rw [List.drop_eq_nil_of_le (by omega), List.drop_eq_nil_of_le (by omega)]
theorem rest_part {b : List UInt8} {k m : Nat} (hm : m = 19 ∧ 19 ≤ ((wholeB b).drop (19 * k)).length ∨ m = ((wholeB b).drop (19 * k)).length ∧ m < 19) : (((wholeB b).drop (19 * k)).drop 0).take (m - 0) = partB b k := by
  unfold partB; rw [List.drop_zero, Nat.sub_zero]
  rcases hm with ⟨rfl, h⟩ | ⟨h1, h2⟩
  · rfl
  · rw [h1, List.take_of_length_le (Nat.le_refl _), List.take_of_length_le (by omega)]
set_option maxRecDepth 100000 in
set_option maxHeartbeats 1000000 in
theorem fwrite_spec {w0 w : World} {I : Imm} {L Ld : Own} {d : Value} {S : DS} (hd : DiskO d S Ld) (hst : St w0 w I (Ld ++ L)) (at_ e q : Int) (hat : i64ok at_) {vb : Value} {b : List UInt8} (hb0 : RdB I vb b) (hbl : b.length ≤ 100000) (hpn : S.pend.length ≤ 900000) :
    Calls Tryz.prog 119 #[d, .int .i64 at_, .agg #[.int .i64 e, .int .i64 q], vb] w fun r w' => ∃ I' Ld' S' next er, Imm.le I I' ∧ r = .returned (.tuple #[.int .i64 next, .int .i64 er]) ∧ St w0 w' I' (Ld' ++ L) ∧ DiskO d S' Ld' ∧ FwR S at_ e q b S' next er := by
  unfold i64ok at hat
  have hneed : needN b.length ≤ 5300 := by unfold needN; omega
  have hsl : S.secs.length ≤ 1024 := by obtain ⟨_, _, _, _, _, _, _, _, _, hok⟩ := hd; exact hok.1
  refine enter Tryz.func119 rfl (N := 77) rfl rfl ?_
  simp only [zA, zB, zC, zD, zE, Nat.reduceAdd]
  have hle := Imm.le.refl I; refine zR <| ze rfl (runs_box rfl hst) ?_; clear hst; rintro _ w ⟨b1, rfl, hst⟩; refine zS rfl rfl <| zS rfl rfl <| zN <| zm rfl rfl <| zK rfl call112 rfl rfl (need_spec hst hb0 (by omega)) ?_; clear hst; rintro e w ⟨rfl, hst⟩; refine ⟨_, rfl, ?_⟩; refine zS rfl rfl <| zM <| zk <| zR <| z1 rfl (runs_loadN (vs := [_, _]) ag124 ti124 rfl hst (k := 0) rfl rfl rfl) ?_; refine zK rfl call67 rfl rfl (seal_spec (b := []) hst e q 0 1 (RdL.nil 1) (by decide)) ?_; clear hst; rintro e w ⟨I3, v3, hI3, rfl, hst, _⟩; rw [seal_may]; replace hb0 := hb0.mono hI3; replace hle := hle.trans hI3; refine ⟨_, rfl, ?_⟩; refine zm rfl rfl <| zx rfl rfl rfl <| zx rfl rfl rfl <| zS rfl rfl <| zS rfl rfl <| zN <| zm rfl rfl <| z1 rfl (runs_neI rfl rfl) <| zm rfl rfl <| zi (t := 28) rfl (fun hb28 => ?_) (fun hb28 => ?_)
  · have hb28p := hb28; (try simp only [dY, dF] at hb28p)
    have hm : mayM e q = false := by
      cases hm : mayM e q
      · rfl
      · rw [hm] at hb28; exact absurd hb28 (by decide)
    refine zG rfl rfl rfl rfl rfl rfl hb28 <| zt rfl rfl hb28 rfl <| zM <| CW.cond_true rfl ?_; refine zR <| zS rfl rfl <| zS rfl rfl <| zM <| CW.ret <| zr <| AQ.ret2 rfl rfl rfl ?_; exact ⟨_, Ld, S, 0, 1, hle, rfl, hst.drop1, hd, by constructor; rw [if_pos (.inl hm)]; exact ⟨rfl, rfl, rfl⟩⟩
  · have hb28p := hb28; (try simp only [dY, dF] at hb28p)
    have hm : mayM e q = true := by
      cases hm : mayM e q
      · rw [hm] at hb28; exact absurd hb28 (by decide)
      · rfl
    refine zo rfl rfl rfl rfl hb28 <| zm rfl rfl <| zo rfl rfl rfl rfl hb28 <| z1 rfl (runs_gtr rfl rfl) <| zn rfl rfl hb28 rfl <| zM <| zb rfl (fun hc31 => ?_) (fun hc31 => ?_)
    · have hcb31 := hc31; (try simp only [dY, dF] at hc31); refine zR <| zS rfl rfl <| zS rfl rfl <| zM <| CW.ret <| zr <| AQ.ret2 rfl rfl rfl ?_; exact ⟨_, Ld, S, 0, 1, hle, rfl, hst.drop1, hd, by constructor; rw [if_pos (.inr (by omega))]; exact ⟨rfl, rfl, rfl⟩⟩
    · have hcb31 := hc31; (try simp only [dY, dF] at hc31)
      have hn255 : needN b.length ≤ 255 := by omega
      refine zj <| za <| zk <| zR <| zm rfl rfl <| z1 rfl (runs_lss rfl rfl) <| zm rfl rfl <| zi (t := 34) rfl (fun hb34 => ?_) (fun hb34 => ?_)
      · have hb34p := hb34; (try simp only [dY, dF] at hb34p); refine zH rfl rfl rfl rfl rfl rfl rfl rfl hb34 <| zH rfl rfl rfl rfl rfl rfl rfl rfl hb34 <| zt rfl rfl hb34 rfl <| zM <| CW.cond_true rfl ?_; refine zR <| zS rfl rfl <| zS rfl rfl <| zM <| CW.ret <| zr <| AQ.ret2 rfl rfl rfl ?_; exact ⟨_, Ld, S, 0, 9, hle, rfl, hst.drop1, hd, by constructor; rw [if_neg (by rw [hm]; simp; omega), if_pos (.inl (by omega))]; exact ⟨rfl, rfl, rfl⟩⟩
      · have hb34p := hb34; (try simp only [dY, dF] at hb34p); refine zo rfl rfl rfl rfl hb34 <| zm rfl rfl <| zo rfl rfl rfl rfl hb34 <| zm rfl rfl <| zo rfl rfl rfl rfl hb34 <| zK rfl call40 rfl rfl (len_spec hd (hst.perm List.perm_middle.symm)) ?_; clear hst; rintro e w ⟨rfl, hst⟩; replace hst := hst.perm List.perm_middle; refine ⟨_, rfl, ?_⟩; refine zo rfl rfl rfl rfl hb34 <| zm rfl rfl <| zo rfl rfl rfl rfl hb34 <| z1 rfl (runs_sub rfl rfl (by omega)) ?_; refine zo rfl rfl rfl rfl hb34 <| z1 rfl (runs_gtr rfl rfl) <| zn rfl rfl hb34 rfl <| zM <| zb rfl (fun hc41 => ?_) (fun hc41 => ?_)
        · have hcb41 := hc41; (try simp only [dY, dF] at hc41); refine zR <| zS rfl rfl <| zS rfl rfl <| zM <| CW.ret <| zr <| AQ.ret2 rfl rfl rfl ?_; exact ⟨_, Ld, S, 0, 9, hle, rfl, hst.drop1, hd, by constructor; rw [if_neg (by rw [hm]; simp; omega), if_pos (.inr (by omega))]; exact ⟨rfl, rfl, rfl⟩⟩
        · have hcb41 := hc41; (try simp only [dY, dF] at hc41)
          have hat0 : 0 ≤ at_ ∧ at_ ≤ (S.secs.length : Int) - (needN b.length : Nat) := by omega
          have hfw : ∀ S' next er, PutEnds S at_ (secB e q b) (needN b.length) S' next er → FwR S at_ e q b S' next er := by
            intro S' next er h
            constructor
            rw [if_neg (by rw [hm]; simp; omega), if_neg (by omega)]; exact h
          refine zj <| za <| zR <| zm rfl rfl <| zK rfl call114 rfl rfl (whole_spec hst hb0 (by omega)) ?_; clear hst; rintro e w ⟨I5, vr0, hI5, rfl, hst, hr0⟩; replace hb0 := hb0.mono hI5; replace hle := hle.trans hI5; refine ⟨_, rfl, ?_⟩; refine zS rfl rfl <| zM <| zk <| zR <| zm rfl rfl <| zm rfl rfl <| zM <| CW.block <| CW.loop (Nat × Imm × Own × Value) (fun x w => I.le x.2.1 ∧ St w0 w x.2.1 ((b1, .cells #[.int .i64 e, .int .i64 q] 124) :: (x.2.2.1 ++ L)) ∧ DiskO d (putTo S at_ (secB e q b) x.1) x.2.2.1 ∧ RdB x.2.1 x.2.2.2 ((wholeB b).drop (19 * x.1)) ∧ (∀ j, j < x.1 → putE S at_ (secB e q b) j = 0) ∧ x.1 ≤ needN b.length) (fun x => [(0, d), (1, .int .i64 at_), (6, .pointer (some ⟨b1, 0, none⟩)), (10, .int .i64 (needN b.length : Nat)), (13, x.2.2.2), (44, .int .i64 (needN b.length : Nat)), (45, .int .i64 (x.1 : Int))]) (fun x => needN b.length - x.1) ⟨(0, _, _, _), ⟨hle, hst, hd, hr0, fun j h => absurd h (Nat.not_lt_zero _), Nat.zero_le _⟩, ⟨rfl, rfl, rfl, rfl, rfl, rfl, rfl, trivial⟩⟩ ?_; clear hr0 hle hd hst; rintro ⟨k, I5, Ld5, vr⟩ w ⟨hle, hst, hd, hr, hz, hk⟩; dsimp only at hle hst hd hr hz hk ⊢; refine zR <| z1 rfl (runs_lss rfl rfl) <| zM <| zk <| zb rfl (fun hc46 => ?_) (fun hc46 => ?_)
          · have hcb46 := hc46; (try simp only [dY, dF] at hc46)
            have hk1 : k < needN b.length := by omega
            have hsm := seal_part hm hn255 hk1; have hpl := partB_len b k; have hpp := putTo_pend S at_ (secB e q b) k; refine zj <| za <| zk <| CW.block <| zR <| zm rfl rfl <| zS rfl rfl <| zN <| zm rfl rfl <| z1 rfl (RdL.len Tryz.underlying52 rfl hr) ?_; refine z1 rfl (runs_min rfl rfl) ?_
            obtain ⟨mn, hmn, hmn1⟩ : ∃ m : Nat, (if ((((wholeB b).drop (19 * k)).length : Nat) : Int) < 19 then ((((wholeB b).drop (19 * k)).length : Nat) : Int) else 19) = (m : Int) ∧ (m = 19 ∧ 19 ≤ ((wholeB b).drop (19 * k)).length ∨ m = ((wholeB b).drop (19 * k)).length ∧ m < 19) := by
              by_cases h : ((wholeB b).drop (19 * k)).length < 19
              · exact ⟨_, by rw [if_pos (by omega)], .inr ⟨rfl, h⟩⟩
              · exact ⟨19, by rw [if_neg (by omega)]; rfl, .inl ⟨rfl, by omega⟩⟩
            rw [hmn]; refine zS rfl rfl <| zM <| zk ?_; refine CW.drawSt hst (.q 0 (.q 1 (.q 2 (.q 3 (.q 4 (.q 5 (.l 6 (.q 7 (.q 8 (.q 9 (.q 10 (.q 11 .nil)))))))))))) follows (by kernel_rfl) (fun w hst => ?_); refine DRW.q rfl rfl (FSt.loadN (vs := [.int .i64 e, .int .i64 q]) ag124 ti124 rfl (k := 0) rfl rfl rfl) ?_; refine ym rfl rfl rfl <| ym rfl rfl rfl <| ym rfl rfl rfl <| ym rfl rfl rfl ?_; have hrp := RdB.part hr (lo := 0) (hi := mn) (Nat.zero_le _) (by omega); rw [rest_part hmn1] at hrp; refine DRW.q rfl rfl (fun w' hF => RdL.slice_h Tryz.underlying52 ti5 rfl rfl hr (by omega)) ?_; refine yC rfl rfl call67 rfl rfl (seal_spec hst e q (k : Int) (needN b.length : Nat) hrp (by omega)) ?_; clear hst; rintro e w ⟨I6, vS, hI6, rfl, hst, hS⟩; rw [hsm] at hS ⊢; replace hS : RdB I6 vS (secB e q b k) := hS; replace hr := hr.mono hI6; replace hle := hle.trans hI6; refine ⟨_, rfl, FSt.ofA hst hI6, ?_⟩; refine ym rfl rfl rfl <| DRW.q rfl rfl (fun w' hF => runs_extract rfl rfl) ?_; refine DRW.q rfl rfl (fun w' hF => runs_extract rfl rfl) ?_; refine yS rfl rfl rfl <| yS rfl rfl rfl <| DRW.done <| za <| zk <| zR <| zm rfl rfl <| zm rfl rfl <| zm rfl rfl <| z1 rfl (runs_add rfl rfl (by omega)) ?_; refine zm rfl rfl <| zK rfl call41 rfl rfl (write_spec hd (hst.perm List.perm_middle.symm) (at_ + (k : Int)) hS (by omega)) ?_; clear hst; rintro e w ⟨I7, Ld6, hI7, rfl, hst, hd6⟩; replace hst := hst.perm List.perm_middle; obtain ⟨er, her⟩ : ∃ er, putE S at_ (secB e q b) k = er := ⟨_, rfl⟩; rw [show (writeR (putTo S at_ (secB e q b) k) (at_ + (k : Int)) (secB e q b k)).2 = er from her]; replace hr := hr.mono hI7; replace hS := hS.mono hI7; replace hle := hle.trans hI7; refine ⟨_, rfl, ?_⟩; refine zS rfl rfl <| zN <| zm rfl rfl <| z1 rfl (runs_neI rfl rfl) <| zM <| zb rfl (fun hc68 => ?_) (fun hc68 => ?_)
            · have hcb68 := hc68; (try simp only [dY, dF] at hc68); refine zR <| zm rfl rfl <| zS rfl rfl <| zS rfl rfl <| zM <| CW.ret <| zr <| AQ.block_ret <| zr <| zr ?_; refine AQ.block_ret <| zr ?_; refine AQ.ret2 rfl rfl rfl ?_; exact ⟨_, Ld6, _, 0, er, hle, rfl, hst.drop1, hd6, hfw _ _ _ (.inr ⟨k, hk1, hz, by rw [her]; omega, rfl, rfl, her.symm⟩)⟩
            · have hcb68 := hc68; (try simp only [dY, dF] at hc68); refine zj <| za <| zg <| zm rfl rfl <| zm rfl rfl ?_; have hrn := RdB.part hr (lo := ((mn : Nat) : Int).toNat) (hi := ((wholeB b).drop (19 * k)).length) (by omega) (Nat.le_refl _); rw [Int.toNat_natCast, rest_next hmn1] at hrn; refine z1 rfl (RdL.slice_l Tryz.underlying52 ti5 rfl rfl hr (by omega)) ?_; refine zS rfl rfl <| zd <| zh <| za <| zg <| z1 rfl (runs_add rfl rfl (by omega)) ?_; refine zm rfl rfl <| zd ?_
              exact AQ.again (x := (k, I5, Ld5, vr)) (k + 1, _, Ld6, _) ⟨hle, hst, hd6, hrn, fun j h => by
                by_cases hj : j < k
                · exact hz j hj
                · have : j = k := by omega
                  subst this
                  rw [her]; omega, by omega⟩ ⟨rfl, rfl, rfl, rfl, rfl, rfl, rfl, trivial⟩ (by dsimp only; omega)
          · have hcb46 := hc46; (try simp only [dY, dF] at hc46); refine CW.exit ?_; refine AQ.past_exit <| AQ.past_exit <| AQ.block_hit <| za <| zR <| zm rfl rfl <| zm rfl rfl <| z1 rfl (runs_add rfl rfl (by omega)) ?_; refine zS rfl rfl <| zS rfl rfl <| zM <| CW.ret <| AQ.ret2 rfl rfl rfl ?_
            have hkn : k = needN b.length := by omega
            subst hkn; exact ⟨_, Ld5, _, _, 0, hle, rfl, hst.drop1, hd, hfw _ _ _ (.inl ⟨hz, rfl, rfl, rfl⟩)⟩
def oAt (S : DS) (at_ : Int) (k : Nat) : OpenR := openR (readR S (at_ + (k : Int)))
def okP (S : DS) (at_ : Int) (k : Nat) : Prop := (oAt S at_ k).err = 0 ∧ [(oAt S at_ k).e, (oAt S at_ k).q] = [(oAt S at_ 0).e, (oAt S at_ 0).q] ∧ (oAt S at_ k).p = (k : Int) ∧ (oAt S at_ k).n = (oAt S at_ 0).n ∧ ¬ ((k : Int) < (oAt S at_ 0).n - 1 ∧ ((oAt S at_ k).b.length : Int) < 19)
instance (S : DS) (at_ : Int) (k : Nat) : Decidable (okP S at_ k) := by unfold okP; infer_instance
def gB (S : DS) (at_ : Int) : Nat → List UInt8
  | 0 => []
  | k + 1 => gB S at_ k ++ (oAt S at_ k).b
theorem openR_nlim (s : List UInt8) : 0 ≤ (openR s).n ∧ (openR s).n ≤ 255 := by
  unfold openR
  split
  · exact bat_lt s 6
  · decide
theorem openR_blen (s : List UInt8) : (openR s).b.length ≤ s.length := by
  unfold openR
  split
  · exact bodyOf_length s
  · exact Nat.zero_le _
theorem openR_pos {s : List UInt8} (h : (openR s).err = 0) : (openR s).p < (openR s).n ∧ 0 ≤ (openR s).p := by
  unfold openR at h ⊢
  split at h
  · rename_i ho
    rw [if_pos ho]
    simp only [openOk, sealM, Bool.and_eq_true, decide_eq_true_eq] at ho
    exact ⟨ho.1.2.1.1.2, ho.1.2.1.1.1.2⟩
  · cases h
theorem readR_len {S : DS} (h : DOk S) {a : Int} (h0 : 0 ≤ a) (h1 : a < S.secs.length) : (readR S a).length = 32 := by
  rw [← readTo_end (S := S) (a := a) (Nat.le_refl _)]; exact readTo_len h h0 h1 _
theorem gB_len {S : DS} (h : DOk S) {at_ : Int} : ∀ (k : Nat), (∀ j, j < k → 0 ≤ at_ + (j : Int) ∧ at_ + (j : Int) < S.secs.length) → (gB S at_ k).length ≤ 32 * k
  | 0, _ => Nat.le_refl _
  | k + 1, hk => by
    have h1 := gB_len h k (fun j hj => hk j (by omega)); have h2 := openR_blen (readR S (at_ + (k : Int))); rw [readR_len h (hk k (by omega)).1 (hk k (by omega)).2] at h2
    show (gB S at_ k ++ (oAt S at_ k).b).length ≤ _
    rw [List.length_append]; unfold oAt; omega
def GatherR (S : DS) (at_ end_ : Int) (e q : Int) (b : List UInt8) (parts er : Int) : Prop :=
  (S.down = true ∧ e = 0 ∧ q = 0 ∧ b = [] ∧ parts = 0 ∧ er = 8) ∨ (S.down = false ∧
  ((∃ n : Nat, 1 ≤ n ∧ (oAt S at_ 0).n = n ∧ (∀ k, k < n → at_ + (k : Int) < end_ ∧ okP S at_ k) ∧ e = (oAt S at_ 0).e ∧ q = (oAt S at_ 0).q ∧ b = gB S at_ n ∧ parts = n ∧ er = 0) ∨
  (∃ k : Nat, (k = 0 ∨ (k : Int) < (oAt S at_ 0).n) ∧ (∀ j, j < k → at_ + (j : Int) < end_ ∧ okP S at_ j) ∧ ¬ (at_ + (k : Int) < end_ ∧ okP S at_ k) ∧ e = 0 ∧ q = 0 ∧ b = [] ∧ parts = 0 ∧ er = 2)))
set_option maxRecDepth 100000 in
set_option maxHeartbeats 1000000 in
theorem gather_spec {w0 w : World} {I : Imm} {L Ld : Own} {d : Value} {S : DS} (hd : DiskO d S Ld) (hst : St w0 w I (Ld ++ L)) (at_ end_ : Int) (h0 : 0 ≤ at_ ∧ at_ < end_ ∧ end_ ≤ S.secs.length) :
    Calls Tryz.prog 111 #[d, .int .i64 at_, .int .i64 end_] w fun r w' => ∃ I' v' e q b parts er, Imm.le I I' ∧ r = .returned (.tuple #[.agg #[.int .i64 e, .int .i64 q], v', .int .i64 parts, .int .i64 er]) ∧ St w0 w' I' (Ld ++ L) ∧ RdB I' v' b ∧ GatherR S at_ end_ e q b parts er := by
  have hok : DOk S := by obtain ⟨_, _, _, _, _, _, _, _, _, hok⟩ := hd; exact hok
  have hsl := hok.1; have hn0 := openR_nlim (readR S (at_ + ((0 : Nat) : Int))); replace hn0 : 0 ≤ (oAt S at_ 0).n ∧ (oAt S at_ 0).n ≤ 255 := hn0; refine enter Tryz.func111 rfl (N := 91) rfl rfl ?_
  simp only [zA, zB, zC, zD, zE, Nat.reduceAdd]
  have hle := Imm.le.refl I; refine zR <| ze rfl (runs_alloc ti124 hst) ?_; clear hst; rintro _ w ⟨b1, rfl, hst⟩; refine zS rfl rfl <| zS rfl rfl <| zS rfl rfl <| zM <| zk <| zR <| zS rfl rfl <| zM <| CW.block <| CW.loop (Nat × Imm × Value × Own × Int × Int × Int) (fun x w => I.le x.2.1 ∧ St w0 w x.2.1 ((b1, .cells #[.int .i64 x.2.2.2.2.1, .int .i64 x.2.2.2.2.2.1] 124) :: (x.2.2.2.1 ++ (Ld ++ L))) ∧ GrowB 5 x.2.2.1 (gB S at_ x.1) x.2.2.2.1 ∧ (∀ j, j < x.1 → at_ + (j : Int) < end_ ∧ okP S at_ j) ∧ (x.1 = 0 ∧ x.2.2.2.2.1 = 0 ∧ x.2.2.2.2.2.1 = 0 ∧ x.2.2.2.2.2.2 = 0 ∨ 1 ≤ x.1 ∧ x.2.2.2.2.1 = (oAt S at_ 0).e ∧ x.2.2.2.2.2.1 = (oAt S at_ 0).q ∧ x.2.2.2.2.2.2 = (oAt S at_ 0).n ∧ (x.1 : Int) ≤ (oAt S at_ 0).n ∧ S.down = false)) (fun x => [(0, d), (1, .int .i64 at_), (2, .int .i64 end_), (6, .pointer (some ⟨b1, 0, none⟩)), (7, x.2.2.1), (8, .int .i64 x.2.2.2.2.2.2), (10, .int .i64 (x.1 : Int))]) (fun x => 300 - x.1) ⟨(0, _, _, [], 0, 0, 0), ⟨hle, hst, GrowB.nil _, fun j h => absurd h (Nat.not_lt_zero _), .inl ⟨rfl, rfl, rfl, rfl⟩⟩, ⟨rfl, rfl, rfl, rfl, rfl, rfl, rfl, trivial⟩⟩ ?_; clear hle hst; rintro ⟨k, IK, vb, Lb, me, mq, pn⟩ w ⟨hle, hst, hgb, hall, hkk⟩; dsimp only at hle hst hgb hall hkk ⊢; refine zk <| zk <| zX Unit (fun _ w => St w0 w IK ((b1, .cells #[.int .i64 me, .int .i64 mq] 124) :: (Lb ++ (Ld ++ L)))) (fun _ => [(0, d), (1, .int .i64 at_), (2, .int .i64 end_), (6, .pointer (some ⟨b1, 0, none⟩)), (7, vb), (8, .int .i64 pn), (10, .int .i64 (k : Int)), (23, .bool (decide (k = 0 ∨ (k : Int) < pn)))]) ?_ ?_
  ·
    refine zg <| zm rfl rfl <| z1 rfl (runs_eqI rfl rfl) <| zm rfl rfl <| zi (t := 19) rfl (fun hb19 => ?_) (fun hb19 => ?_)
    · have hb19p := hb19; (try simp only [dY, dF] at hb19p); refine zH rfl rfl rfl rfl rfl rfl rfl rfl hb19 <| zt rfl rfl hb19 rfl <| zd ?_; exact zv () hst ⟨rfl, rfl, rfl, rfl, rfl, rfl, rfl, boolN (by simp only [decide_eq_true_eq, true_iff, Bool.false_eq_true, false_iff]; omega), trivial⟩
    · have hb19p := hb19; (try simp only [dY, dF] at hb19p); refine zo rfl rfl rfl rfl hb19 <| zm rfl rfl <| zo rfl rfl rfl rfl hb19 <| zm rfl rfl <| zo rfl rfl rfl rfl hb19 <| z1 rfl (runs_lss rfl rfl) <| zn rfl rfl hb19 rfl <| zd ?_; exact zv () hst ⟨rfl, rfl, rfl, rfl, rfl, rfl, rfl, boolN (by simp only [decide_eq_true_eq, true_iff, Bool.false_eq_true, false_iff]; omega), trivial⟩
  · clear hst; rintro _ w hst; refine za <| zb rfl (fun hc23 => ?_) (fun hc23 => ?_)
    · have hcb23 := hc23; (try simp only [dY, dF] at hc23)
      have hk255 : k ≤ 255 := by omega
      have hpre : k = 0 ∨ (k : Int) < (oAt S at_ 0).n := by omega
      refine zj <| za <| zk <| CW.block <| zk <| zR <| zm rfl rfl <| zm rfl rfl <| z1 rfl (runs_add rfl rfl (by omega)) ?_; refine zm rfl rfl <| z1 rfl (runs_geq rfl rfl) <| zM <| zb rfl (fun hc30 => ?_) (fun hc30 => ?_)
      · have hcb30 := hc30; (try simp only [dY, dF] at hc30)
        have hbad : ¬ (at_ + (k : Int) < end_ ∧ okP S at_ k) := fun h => by omega
        refine zR <| z1 rfl (runs_buildF (cells := [_, _]) bz124 rfl rfl rfl rfl rfl) ?_; refine zw 0 ti124 rfl rfl hst rfl rfl rfl rfl ?_; clear hst; rintro w hst; (try simp only [sZ, sS] at hst); refine zS rfl rfl <| zS rfl rfl <| zS rfl rfl <| zM <| CW.ret <| zr <| AQ.block_ret <| zr <| zr <| AQ.block_ret ?_; refine zr ?_; refine AQ.retL (rs := [.cell 6 124, .tmp 7, .tmp 8, .tmp 9]) (vs := [_, _, _, _]) rfl ⟨⟨_, rfl, hst.loadN (vs := [_, _]) (k := 0) ag124 ti124 rfl rfl rfl⟩, rfl, rfl, rfl, trivial⟩ (by simp) ?_
        have hdn : S.down = false := by
          rcases hkk with h | h
          · omega
          · exact h.2.2.2.2.2
        exact ⟨_, _, 0, 0, [], 0, 2, hle, rfl, hst.sub ((List.sublist_append_right _ _).trans (List.sublist_cons_self _ _)), RdL.nil 1, .inr ⟨hdn, .inr ⟨k, hpre, hall, hbad, rfl, rfl, rfl, rfl, rfl⟩⟩⟩
      · have hcb30 := hc30; (try simp only [dY, dF] at hc30)
        have hin : at_ + (k : Int) < end_ := by omega
        refine zj <| za <| zR <| zm rfl rfl <| zm rfl rfl <| zm rfl rfl <| z1 rfl (runs_add rfl rfl (by omega)) ?_; refine zK rfl call109 rfl rfl (read_spec hd (hst.perm (perm_in _ Lb Ld L)) (at_ + (k : Int))) ?_; clear hst; rintro e w ⟨I3, vS, hI3, rfl, hst, hS⟩; replace hst := hst.perm (perm_in _ Lb Ld L).symm; replace hle := hle.trans hI3; refine ⟨_, rfl, ?_⟩; refine zm rfl rfl <| zx rfl rfl rfl <| zx rfl rfl rfl <| zS rfl rfl <| zS rfl rfl <| zM <| zk <| zR <| zm rfl rfl <| z1 rfl (runs_neI rfl rfl) ?_; refine zM ?_; refine zb rfl (fun hc41 => ?_) (fun hc41 => ?_)
        · have hcb41 := hc41; (try simp only [dY, dF] at hc41)
          have hdn : S.down = true := by
            cases hdn : S.down
            · exact absurd (may_in hdn (by omega) (by omega)) hc41
            · rfl
          rw [may_down hdn]; refine zR <| z1 rfl (runs_buildF (cells := [_, _]) bz124 rfl rfl rfl rfl rfl) <| zm rfl rfl ?_; refine zw 0 ti124 rfl rfl hst rfl rfl rfl rfl ?_; clear hst; rintro w hst; (try simp only [sZ, sS] at hst); refine zS rfl rfl <| zS rfl rfl <| zS rfl rfl <| zM <| CW.ret <| zr <| AQ.block_ret <| zr <| zr <| AQ.block_ret ?_; refine zr ?_; refine AQ.retL (rs := [.cell 6 124, .tmp 7, .tmp 8, .tmp 9]) (vs := [_, _, _, _]) rfl ⟨⟨_, rfl, hst.loadN (vs := [_, _]) (k := 0) ag124 ti124 rfl rfl rfl⟩, rfl, rfl, rfl, trivial⟩ (by simp) ?_; exact ⟨_, _, 0, 0, [], 0, 8, hle, rfl, hst.sub ((List.sublist_append_right _ _).trans (List.sublist_cons_self _ _)), RdL.nil 1, .inl ⟨hdn, rfl, rfl, rfl, rfl, rfl⟩⟩
        · have hcb41 := hc41; (try simp only [dY, dF] at hc41)
          have hm0 : mayR S (at_ + (k : Int)) = 0 := by omega
          have hdn : S.down = false := (mayR_ok hm0).1; rw [if_pos hm0] at hS; have hSl := readR_len hok (a := at_ + (k : Int)) (by omega) (by omega); refine zj <| za <| zR <| zm rfl rfl <| zK rfl call110 rfl rfl (open_spec hst hS (by omega)) ?_; clear hst; rintro e w ⟨I5, vO, hI5, rfl, hst, hO⟩; rw [show openR (readR S (at_ + (k : Int))) = oAt S at_ k from rfl] at hO ⊢; have hon : 0 ≤ (oAt S at_ k).n ∧ (oAt S at_ k).n ≤ 255 := openR_nlim _
          have hob : (oAt S at_ k).b.length ≤ 32 := by rw [← hSl]; exact openR_blen _
          replace hS := hS.mono hI5; replace hle := hle.trans hI5; refine ⟨_, rfl, ?_⟩; refine zm rfl rfl <| zx rfl rfl rfl <| zx rfl rfl rfl <| zx rfl rfl rfl <| zx rfl rfl rfl <| zx rfl rfl rfl <| ze rfl (runs_alloc ti124 hst) ?_; clear hst; rintro _ w ⟨b6, rfl, hst⟩; refine zw 0 ti124 rfl rfl hst rfl rfl rfl rfl ?_; clear hst; rintro w hst; (try simp only [sZ, sS] at hst); refine zS rfl rfl <| zS rfl rfl <| zS rfl rfl <| zS rfl rfl <| zM <| zk <| zR <| zm rfl rfl <| z1 rfl (runs_eqI rfl rfl) <| zM ?_; refine zX Unit (fun _ w => St w0 w I5 ((b6, .cells #[.int .i64 (oAt S at_ k).e, .int .i64 (oAt S at_ k).q] 124) :: (b1, .cells #[.int .i64 (oAt S at_ 0).e, .int .i64 (oAt S at_ 0).q] 124) :: (Lb ++ (Ld ++ L)))) (fun _ => [(0, d), (1, .int .i64 at_), (2, .int .i64 end_), (6, .pointer (some ⟨b1, 0, none⟩)), (7, vb), (8, .int .i64 (oAt S at_ 0).n), (10, .int .i64 (k : Int)), (13, .pointer (some ⟨b6, 0, none⟩)), (14, .int .i64 (oAt S at_ k).p), (15, .int .i64 (oAt S at_ k).n), (16, vO), (12, .int .i64 (oAt S at_ k).err)]) ?_ ?_
          · refine zb rfl (fun hc53 => ?_) (fun hc53 => ?_)
            · have hcb53 := hc53; (try simp only [dY, dF] at hc53); refine zg <| z1 rfl (runs_loadN (vs := [_, _]) ag124 ti124 rfl hst (k := 0) rfl rfl rfl) ?_; refine zm rfl rfl ?_; refine zw 1 ti124 rfl rfl hst rfl rfl rfl rfl ?_; clear hst; rintro w hst; (try simp only [sZ, sS] at hst); refine zS rfl rfl <| zd ?_
              first
                | (obtain rfl : k = 0 := by omega
                   exact zv () hst ⟨rfl, rfl, rfl, rfl, rfl, rfl, rfl, rfl, rfl, rfl, rfl, rfl, trivial⟩)
                | (obtain ⟨e1, e2, e3⟩ : me = (oAt S at_ 0).e ∧ mq = (oAt S at_ 0).q ∧ pn = (oAt S at_ 0).n := by omega
                   subst e1 e2 e3
                   exact zv () hst ⟨rfl, rfl, rfl, rfl, rfl, rfl, rfl, rfl, rfl, rfl, rfl, rfl, trivial⟩)
            · have hcb53 := hc53; (try simp only [dY, dF] at hc53); refine zj ?_
              first
                | (obtain rfl : k = 0 := by omega
                   exact zv () hst ⟨rfl, rfl, rfl, rfl, rfl, rfl, rfl, rfl, rfl, rfl, rfl, rfl, trivial⟩)
                | (obtain ⟨e1, e2, e3⟩ : me = (oAt S at_ 0).e ∧ mq = (oAt S at_ 0).q ∧ pn = (oAt S at_ 0).n := by omega
                   subst e1 e2 e3
                   exact zv () hst ⟨rfl, rfl, rfl, rfl, rfl, rfl, rfl, rfl, rfl, rfl, rfl, rfl, trivial⟩)
          · clear hst; rintro _ w hst; refine za <| zk <| zk <| zX Unit (fun _ w => St w0 w I5 ((b6, .cells #[.int .i64 (oAt S at_ k).e, .int .i64 (oAt S at_ k).q] 124) :: (b1, .cells #[.int .i64 (oAt S at_ 0).e, .int .i64 (oAt S at_ 0).q] 124) :: (Lb ++ (Ld ++ L)))) (fun _ => [(0, d), (1, .int .i64 at_), (2, .int .i64 end_), (6, .pointer (some ⟨b1, 0, none⟩)), (7, vb), (8, .int .i64 (oAt S at_ 0).n), (10, .int .i64 (k : Int)), (16, vO), (83, .bool (decide (¬ okP S at_ k)))]) ?_ ?_
            ·
              refine zg <| zm rfl rfl <| z1 rfl (runs_neI rfl rfl) <| zm rfl rfl <| zi (t := 58) rfl (fun hb58 => ?_) (fun hb58 => ?_)
              · have hb58p := hb58; (try simp only [dY, dF] at hb58p); refine zH rfl rfl rfl rfl rfl rfl rfl rfl hb58 <| zt rfl rfl hb58 rfl <| zm rfl rfl <| zH rfl rfl rfl rfl rfl rfl rfl rfl rfl <| zt rfl rfl rfl rfl <| zm rfl rfl <| zH rfl rfl rfl rfl rfl rfl rfl rfl rfl <| zt rfl rfl rfl rfl <| zm rfl rfl <| zH rfl rfl rfl rfl rfl rfl rfl rfl rfl ?_; refine zG rfl rfl rfl rfl rfl rfl rfl ?_; refine zu rfl rfl rfl rfl ?_; refine zu rfl rfl rfl rfl ?_; refine zu rfl rfl rfl rfl ?_; refine zf rfl rfl rfl rfl rfl <| zt rfl rfl rfl rfl <| zd ?_; exact zv () hst ⟨rfl, rfl, rfl, rfl, rfl, rfl, rfl, rfl, boolN (by unfold okP; simp_all <;> omega), trivial⟩
              · have hb58p := hb58; (try simp only [dY, dF] at hb58p); refine zo rfl rfl rfl rfl hb58 <| z1 rfl (runs_loadN (vs := [_, _]) ag124 ti124 rfl hst (k := 0) rfl rfl rfl) ?_; refine zo rfl rfl rfl rfl hb58 <| z1 rfl (runs_loadN (vs := [_, _]) ag124 ti124 rfl hst (k := 1) rfl rfl rfl) ?_; refine zo rfl rfl rfl rfl hb58 <| z1 rfl (runs_neZ (xs := [_, _]) (ys := [_, _]) ez124 rfl rfl rfl rfl) <| zn rfl rfl hb58 rfl <| zm rfl rfl <| zi (t := 63) rfl (fun hb63 => ?_) (fun hb63 => ?_)
                · have hb63p := hb63; (try simp only [dY, dF] at hb63p); refine zH rfl rfl rfl rfl rfl rfl rfl rfl hb63 <| zt rfl rfl hb63 rfl <| zm rfl rfl <| zH rfl rfl rfl rfl rfl rfl rfl rfl rfl <| zt rfl rfl rfl rfl <| zm rfl rfl <| zH rfl rfl rfl rfl rfl rfl rfl rfl rfl <| zG rfl rfl rfl rfl rfl rfl rfl <| zu rfl rfl rfl rfl ?_; refine zu rfl rfl rfl rfl ?_; refine zu rfl rfl rfl rfl ?_; refine zf rfl rfl rfl rfl rfl <| zt rfl rfl rfl rfl <| zd ?_; exact zv () hst ⟨rfl, rfl, rfl, rfl, rfl, rfl, rfl, rfl, boolN (by unfold okP; simp_all <;> omega), trivial⟩
                · have hb63p := hb63; (try simp only [dY, dF] at hb63p); refine zo rfl rfl rfl rfl hb63 <| zm rfl rfl <| zo rfl rfl rfl rfl hb63 <| zm rfl rfl <| zo rfl rfl rfl rfl hb63 <| z1 rfl (runs_neI rfl rfl) <| zn rfl rfl hb63 rfl <| zm rfl rfl <| zi (t := 68) rfl (fun hb68 => ?_) (fun hb68 => ?_)
                  · have hb68p := hb68; (try simp only [dY, dF] at hb68p); refine zH rfl rfl rfl rfl rfl rfl rfl rfl hb68 <| zt rfl rfl hb68 rfl <| zm rfl rfl <| zH rfl rfl rfl rfl rfl rfl rfl rfl rfl <| zG rfl rfl rfl rfl rfl rfl rfl <| zu rfl rfl rfl rfl ?_; refine zu rfl rfl rfl rfl ?_; refine zu rfl rfl rfl rfl ?_; refine zf rfl rfl rfl rfl rfl <| zt rfl rfl rfl rfl <| zd ?_; exact zv () hst ⟨rfl, rfl, rfl, rfl, rfl, rfl, rfl, rfl, boolN (by unfold okP; simp_all <;> omega), trivial⟩
                  · have hb68p := hb68; (try simp only [dY, dF] at hb68p); refine zo rfl rfl rfl rfl hb68 <| zm rfl rfl <| zo rfl rfl rfl rfl hb68 <| zm rfl rfl <| zo rfl rfl rfl rfl hb68 <| z1 rfl (runs_neI rfl rfl) <| zn rfl rfl hb68 rfl <| zm rfl rfl <| zi (t := 73) rfl (fun hb73 => ?_) (fun hb73 => ?_)
                    · have hb73p := hb73; (try simp only [dY, dF] at hb73p); refine zH rfl rfl rfl rfl rfl rfl rfl rfl hb73 <| zG rfl rfl rfl rfl rfl rfl hb73 <| zu rfl rfl rfl rfl ?_; refine zu rfl rfl rfl rfl ?_; refine zu rfl rfl rfl rfl ?_; refine zf rfl rfl rfl rfl hb73 <| zt rfl rfl hb73 rfl <| zd ?_; exact zv () hst ⟨rfl, rfl, rfl, rfl, rfl, rfl, rfl, rfl, boolN (by unfold okP; simp_all <;> omega), trivial⟩
                    · have hb73p := hb73; (try simp only [dY, dF] at hb73p); refine zo rfl rfl rfl rfl hb73 <| zm rfl rfl <| zo rfl rfl rfl rfl hb73 <| zm rfl rfl <| zo rfl rfl rfl rfl hb73 <| z1 rfl (runs_sub rfl rfl (by omega)) ?_; refine zo rfl rfl rfl rfl hb73 <| z1 rfl (runs_lss rfl rfl) <| zo rfl rfl rfl rfl hb73 <| zm rfl rfl <| zi (t := 78) rfl (fun hb78 => ?_) (fun hb78 => ?_)
                      · have hb78p := hb78; (try simp only [dY, dF] at hb78p); refine zo rfl rfl rfl rfl hb78 <| zm rfl rfl <| zo rfl rfl rfl rfl hb78 <| z1 rfl (RdL.len Tryz.underlying52 rfl hO) <| zo rfl rfl rfl rfl hb78 <| z1 rfl (runs_lss rfl rfl) <| zo rfl rfl rfl rfl hb73 <| zt rfl rfl hb78 rfl <| zn rfl rfl hb73 rfl <| zd ?_; exact zv () hst ⟨rfl, rfl, rfl, rfl, rfl, rfl, rfl, rfl, boolN (by unfold okP; simp_all <;> omega), trivial⟩
                      · have hb78p := hb78; (try simp only [dY, dF] at hb78p); refine zH rfl rfl rfl rfl rfl rfl rfl rfl hb78 <| zo rfl rfl rfl rfl hb73 <| zn rfl rfl hb78 rfl <| zn rfl rfl hb73 rfl <| zd ?_; exact zv () hst ⟨rfl, rfl, rfl, rfl, rfl, rfl, rfl, rfl, boolN (by unfold okP; simp_all <;> omega), trivial⟩
            · clear hst; rintro _ w hst; refine za <| zb rfl (fun hc83 => ?_) (fun hc83 => ?_)
              · have hcb83 := hc83; (try simp only [dY, dF] at hc83)
                have hbad : ¬ (at_ + (k : Int) < end_ ∧ okP S at_ k) := fun h => hc83 h.2
                refine zR <| z1 rfl (runs_buildF (cells := [_, _]) bz124 rfl rfl rfl rfl rfl) ?_; refine zw 1 ti124 rfl rfl hst rfl rfl rfl rfl ?_; clear hst; rintro w hst; (try simp only [sZ, sS] at hst); refine zS rfl rfl <| zS rfl rfl <| zS rfl rfl <| zM <| CW.ret <| zr <| AQ.block_ret <| zr <| zr <| AQ.block_ret ?_; refine zr ?_; refine AQ.retL (rs := [.cell 6 124, .tmp 7, .tmp 8, .tmp 9]) (vs := [_, _, _, _]) rfl ⟨⟨_, rfl, hst.loadN (vs := [_, _]) (k := 1) ag124 ti124 rfl rfl rfl⟩, rfl, rfl, rfl, trivial⟩ (by simp) ?_; exact ⟨_, _, 0, 0, [], 0, 2, hle, rfl, hst.sub (((List.sublist_append_right _ _).trans (List.sublist_cons_self _ _)).trans (List.sublist_cons_self _ _)), RdL.nil 1, .inr ⟨hdn, .inr ⟨k, hpre, hall, hbad, rfl, rfl, rfl, rfl, rfl⟩⟩⟩
              · have hcb83 := hc83; (try simp only [dY, dF] at hc83)
                have hokk : okP S at_ k := by simpa using hc83
                have hgl := gB_len hok (at_ := at_) k (fun j hj => by have := (hall j hj).1; omega); refine zj <| za <| zg <| zm rfl rfl <| zm rfl rfl <| ze rfl (runs_appendB Tryz.underlying52 ti5 rfl rfl (hst.perm (perm_two2 _ _ Lb (Ld ++ L))) hgb hO (by omega)) ?_; clear hst; rintro u10 w ⟨Lv10, hst, hg10⟩
                have hgN : GrowB 5 u10 (gB S at_ (k + 1)) Lv10 := by
                  show GrowB _ _ (gB S at_ k ++ (oAt S at_ k).b) _
                  exact hg10
                replace hst := hst.perm (perm_two2 _ _ Lv10 (Ld ++ L)).symm; refine zS rfl rfl <| zd <| zh <| za <| zg <| zm rfl rfl <| z1 rfl (runs_add rfl rfl (by omega)) ?_; refine zS rfl rfl <| zd ?_
                exact AQ.again (x := (k, IK, vb, Lb, me, mq, pn)) (k + 1, _, _, _, _, _, _) ⟨hle, hst.drop1, hgN, fun j h => by
                  by_cases hj : j < k
                  · exact hall j hj
                  · have : j = k := by omega
                    subst this
                    exact ⟨hin, hokk⟩, .inr ⟨by dsimp only; omega, rfl, rfl, rfl, by
                  have h1 := hokk.1; have h2 := openR_pos (s := readR S (at_ + (k : Int))) h1; have h3 := hokk.2.2.1; have h4 := hokk.2.2.2.1; have h5 : (oAt S at_ k).p < (oAt S at_ k).n := h2.1; dsimp only
                  omega, hdn⟩⟩ ⟨rfl, rfl, rfl, rfl, rfl, rfl, rfl, trivial⟩ (by dsimp only; omega)
    · have hcb23 := hc23; (try simp only [dY, dF] at hc23)
      have hkn : (oAt S at_ 0).n = (k : Nat) ∧ 1 ≤ k := by omega
      refine CW.exit ?_; refine AQ.past_exit <| AQ.past_exit <| AQ.block_hit <| za <| zR <| z1 rfl (runs_loadN (vs := [_, _]) ag124 ti124 rfl hst (k := 0) rfl rfl rfl) ?_; refine zm rfl rfl <| zm rfl rfl ?_; refine zw 0 ti124 rfl rfl hst rfl rfl rfl rfl ?_; clear hst; rintro w hst; (try simp only [sZ, sS] at hst); refine zS rfl rfl <| zS rfl rfl <| zS rfl rfl <| zM <| CW.ret <| AQ.retL (rs := [.cell 6 124, .tmp 7, .tmp 8, .tmp 9]) (vs := [_, _, _, _]) rfl ⟨⟨_, rfl, hst.loadN (vs := [_, _]) (k := 0) ag124 ti124 rfl rfl rfl⟩, rfl, rfl, rfl, trivial⟩ (by simp) ?_
      obtain ⟨h1, rfl, rfl, rfl, h2, hdn⟩ : 1 ≤ k ∧ me = (oAt S at_ 0).e ∧ mq = (oAt S at_ 0).q ∧ pn = (oAt S at_ 0).n ∧ (k : Int) ≤ (oAt S at_ 0).n ∧ S.down = false := by
        rcases hkk with h | h
        · omega
        · exact h
      obtain ⟨I', hI', hst', hr'⟩ := GrowB.freeze hgb (hst.sub (List.sublist_cons_self _ _)); exact ⟨I', _, _, _, _, _, 0, hle.trans hI', rfl, hst', hr', .inr ⟨hdn, .inl ⟨k, h1, hkn.1, hall, rfl, rfl, rfl, hkn.1, rfl⟩⟩⟩
end Go.Proofs.YtadgbifmiooikaaGreatX
