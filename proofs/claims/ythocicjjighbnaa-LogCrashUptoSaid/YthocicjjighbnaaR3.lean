/- A record read from sectors: what this comes to. -/
import Derived.Test.YthocicjjighbnaaT
import Derived.Test.YthocicjjighbnaaR2
namespace Go.Proofs.YthocicjjighbnaaX
set_option linter.unusedVariables false
set_option linter.unusedSimpArgs false
open Go Go.RowKit Go.Proofs

def oAt (S : DS) (at_ : Int) (k : Nat) : OpenR := openR (readR S (at_ + (k : Int)))
def okP (S : DS) (at_ : Int) (k : Nat) : Prop := (oAt S at_ k).err = 0 ∧ [(oAt S at_ k).e, (oAt S at_ k).q] = [(oAt S at_ 0).e, (oAt S at_ 0).q] ∧ (oAt S at_ k).p = (k : Int) ∧ (oAt S at_ k).n = (oAt S at_ 0).n ∧ ¬ ((k : Int) < (oAt S at_ 0).n - 1 ∧ ((oAt S at_ k).b.length : Int) < 19)
instance (S : DS) (at_ : Int) (k : Nat) : Decidable (okP S at_ k) := by unfold okP; infer_instance
def gB (S : DS) (at_ : Int) : Nat → List UInt8
  | 0 => []
  | k + 1 => gB S at_ k ++ (oAt S at_ k).b
theorem openR_nlim (s : List UInt8) : 0 ≤ (openR s).n ∧ (openR s).n ≤ 255 := by
  unfold openR
  split
  · exact bat_lt s 6
  · decide
theorem openR_blen (s : List UInt8) : (openR s).b.length ≤ s.length := by
  unfold openR
  split
  · exact bodyOf_length s
  · exact Nat.zero_le _
theorem openR_pos {s : List UInt8} (h : (openR s).err = 0) : (openR s).p < (openR s).n ∧ 0 ≤ (openR s).p := by
  unfold openR at h ⊢
  split at h
  · rename_i ho
    rw [if_pos ho]
    simp only [openOk, sealM, Bool.and_eq_true, decide_eq_true_eq] at ho
    exact ⟨ho.1.2.1.1.2, ho.1.2.1.1.1.2⟩
  · cases h
theorem readR_len {S : DS} (h : DOk S) {a : Int} (h0 : 0 ≤ a) (h1 : a < S.secs.length) : (readR S a).length = 32 := by
  rw [← readTo_end (S := S) (a := a) (Nat.le_refl _)]
  exact readTo_len h h0 h1 _
theorem gB_len {S : DS} (h : DOk S) {at_ : Int} : ∀ (k : Nat), (∀ j, j < k → 0 ≤ at_ + (j : Int) ∧ at_ + (j : Int) < S.secs.length) → (gB S at_ k).length ≤ 32 * k
  | 0, _ => Nat.le_refl _
  | k + 1, hk => by
    have h1 := gB_len h k (fun j hj => hk j (by omega))
    have h2 := openR_blen (readR S (at_ + (k : Int)))
    rw [readR_len h (hk k (by omega)).1 (hk k (by omega)).2] at h2
    show (gB S at_ k ++ (oAt S at_ k).b).length ≤ _
    rw [List.length_append]
    unfold oAt
    omega
/-- How the parts of a record are gathered. -/
def GatherR (S : DS) (at_ end_ : Int) (e q : Int) (b : List UInt8) (parts er : Int) : Prop :=
  (S.down = true ∧ e = 0 ∧ q = 0 ∧ b = [] ∧ parts = 0 ∧ er = 8) ∨ (S.down = false ∧
  ((∃ n : Nat, 1 ≤ n ∧ (oAt S at_ 0).n = n ∧ (∀ k, k < n → at_ + (k : Int) < end_ ∧ okP S at_ k) ∧ e = (oAt S at_ 0).e ∧ q = (oAt S at_ 0).q ∧ b = gB S at_ n ∧ parts = n ∧ er = 0) ∨
  (∃ k : Nat, (k = 0 ∨ (k : Int) < (oAt S at_ 0).n) ∧ (∀ j, j < k → at_ + (j : Int) < end_ ∧ okP S at_ j) ∧ ¬ (at_ + (k : Int) < end_ ∧ okP S at_ k) ∧ e = 0 ∧ q = 0 ∧ b = [] ∧ parts = 0 ∧ er = 2)))
theorem perm_two2 {α : Type} (x y : α) (A B : List α) : (x :: y :: (A ++ B)).Perm (A ++ (x :: y :: B)) := ((List.perm_middle (l₁ := A) (a := y) (l₂ := B)).symm.cons x).trans List.perm_middle.symm
theorem boolN {b : Bool} {P : Prop} [Decidable P] (h : b = true ↔ P) : some (Value.bool b) = some (Value.bool (decide P)) := by
  congr 2
  cases b
  · rw [decide_eq_false (fun hp => by cases h.2 hp)]
  · rw [decide_eq_true (h.1 rfl)]
set_option maxRecDepth 100000 in
set_option maxHeartbeats 1000000 in
theorem gather_spec {w0 w : World} {I : Imm} {L Ld : Own} {d : Value} {S : DS} (hd : DiskO d S Ld) (hst : St w0 w I (Ld ++ L)) (at_ end_ : Int) (h0 : 0 ≤ at_ ∧ at_ < end_ ∧ end_ ≤ S.secs.length) :
    Calls Try.prog 51 #[d, .int .i64 at_, .int .i64 end_] w fun r w' => ∃ I' v' e q b parts er, Imm.le I I' ∧ r = .returned (.tuple #[.agg #[.int .i64 e, .int .i64 q], v', .int .i64 parts, .int .i64 er]) ∧ St w0 w' I' (Ld ++ L) ∧ RdB I' v' b ∧ GatherR S at_ end_ e q b parts er := by
  have hok : DOk S := by obtain ⟨_, _, _, _, _, _, _, _, _, hok⟩ := hd; exact hok
  have hsl := hok.1
  have hn0 := openR_nlim (readR S (at_ + ((0 : Nat) : Int)))
  replace hn0 : 0 ≤ (oAt S at_ 0).n ∧ (oAt S at_ 0).n ≤ 255 := hn0
  refine enter Try.func51 rfl (N := 91) rfl rfl ?_
  simp only [List.zipIdx_cons, List.zipIdx_nil, List.map_cons, List.map_nil, Nat.zero_add, Nat.reduceAdd]
  have hle := Imm.le.refl I
  refine CW.seq ?_
  -- region 0
  refine CW.region ?_
  refine RW.opE rfl (runs_alloc ti38 hst) ?_
  rintro _ w ⟨b1, rfl, hstn⟩
  clear hst
  have hst := hstn
  clear hstn
  refine RW.op1 rfl (runs_assign rfl) ?_
  refine RW.op1 rfl (runs_assign rfl) ?_
  refine RW.op1 rfl (runs_assign rfl) ?_
  refine RW.done ?_
  refine AQ.next ?_
  refine CW.seq ?_
  refine CW.seq ?_
  -- region 1
  refine CW.region ?_
  refine RW.op1 rfl (runs_assign rfl) ?_
  refine RW.done ?_
  refine AQ.next ?_
  refine CW.block ?_
  -- loop 1
  refine CW.loop (Nat × Imm × Value × Own × Int × Int × Int) (fun x w => I.le x.2.1 ∧ St w0 w x.2.1 ((b1, .cells #[.int .i64 x.2.2.2.2.1, .int .i64 x.2.2.2.2.2.1] 38) :: (x.2.2.2.1 ++ (Ld ++ L))) ∧ GrowB 5 x.2.2.1 (gB S at_ x.1) x.2.2.2.1 ∧ (∀ j, j < x.1 → at_ + (j : Int) < end_ ∧ okP S at_ j) ∧ (x.1 = 0 ∧ x.2.2.2.2.1 = 0 ∧ x.2.2.2.2.2.1 = 0 ∧ x.2.2.2.2.2.2 = 0 ∨ 1 ≤ x.1 ∧ x.2.2.2.2.1 = (oAt S at_ 0).e ∧ x.2.2.2.2.2.1 = (oAt S at_ 0).q ∧ x.2.2.2.2.2.2 = (oAt S at_ 0).n ∧ (x.1 : Int) ≤ (oAt S at_ 0).n ∧ S.down = false)) (fun x => [(0, d), (1, .int .i64 at_), (2, .int .i64 end_), (6, .pointer (some ⟨b1, 0, none⟩)), (7, x.2.2.1), (8, .int .i64 x.2.2.2.2.2.2), (10, .int .i64 (x.1 : Int))]) (fun x => 300 - x.1) ⟨(0, _, _, [], 0, 0, 0), ⟨hle, hst, GrowB.nil _, fun j h => absurd h (Nat.not_lt_zero _), .inl ⟨rfl, rfl, rfl, rfl⟩⟩, ⟨rfl, rfl, rfl, rfl, rfl, rfl, rfl, trivial⟩⟩ ?_
  clear hle hst
  rintro ⟨k, IK, vb, Lb, me, mq, pn⟩ w ⟨hle, hst, hgb, hall, hkk⟩
  dsimp only at hle hst hgb hall hkk ⊢
  refine CW.seq ?_
  refine CW.seq ?_
  -- region 2
  refine CW.cut Unit (fun _ w => St w0 w IK ((b1, .cells #[.int .i64 me, .int .i64 mq] 38) :: (Lb ++ (Ld ++ L)))) (fun _ => [(0, d), (1, .int .i64 at_), (2, .int .i64 end_), (6, .pointer (some ⟨b1, 0, none⟩)), (7, vb), (8, .int .i64 pn), (10, .int .i64 (k : Int)), (23, .bool (decide (k = 0 ∨ (k : Int) < pn)))]) ?_ ?_
  · -- region 2
    refine CW.region ?_
    refine RW.op1 rfl (runs_move rfl) ?_
    refine RW.op1 rfl (runs_eqI rfl rfl) ?_
    refine RW.op1 rfl (runs_move rfl) ?_
    refine RW.split (t := 19) rfl (fun hb19 => ?_) (fun hb19 => ?_)
    · have hb19p := hb19
      try simp only [decide_eq_true_eq, decide_eq_false_iff_not] at hb19p
      refine RW.off_guard rfl rfl rfl rfl hb19 ?_
      refine RW.off_guard rfl rfl rfl rfl hb19 ?_
      refine RW.off_guard rfl rfl rfl rfl hb19 ?_
      refine RW.op1 rfl (runs_pick_true rfl hb19 rfl) ?_
      refine RW.done ?_
      exact AQ.meet () hst ⟨rfl, rfl, rfl, rfl, rfl, rfl, rfl, boolN (by simp only [decide_eq_true_eq, true_iff, Bool.false_eq_true, false_iff]; omega), trivial⟩
    · have hb19p := hb19
      try simp only [decide_eq_true_eq, decide_eq_false_iff_not] at hb19p
      refine RW.on_guard rfl rfl rfl rfl hb19 ?_
      refine RW.op1 rfl (runs_move rfl) ?_
      refine RW.on_guard rfl rfl rfl rfl hb19 ?_
      refine RW.op1 rfl (runs_move rfl) ?_
      refine RW.on_guard rfl rfl rfl rfl hb19 ?_
      refine RW.op1 rfl (runs_lss rfl rfl) ?_
      refine RW.op1 rfl (runs_pick_false rfl hb19 rfl) ?_
      refine RW.done ?_
      exact AQ.meet () hst ⟨rfl, rfl, rfl, rfl, rfl, rfl, rfl, boolN (by simp only [decide_eq_true_eq, true_iff, Bool.false_eq_true, false_iff]; omega), trivial⟩
  · rintro _ w hstn
    clear hst
    have hst := hstn
    clear hstn
    refine AQ.next ?_
    refine CW.cond rfl (fun hc23 => ?_) (fun hc23 => ?_)
    · have hcb23 := hc23
      try simp only [decide_eq_true_eq, decide_eq_false_iff_not] at hc23
      have hk255 : k ≤ 255 := by omega
      have hpre : k = 0 ∨ (k : Int) < (oAt S at_ 0).n := by omega
      refine CW.skip ?_
      refine AQ.next ?_
      refine CW.seq ?_
      refine CW.block ?_
      refine CW.seq ?_
      refine CW.seq ?_
      -- region 4
      refine CW.region ?_
      refine RW.op1 rfl (runs_move rfl) ?_
      refine RW.op1 rfl (runs_move rfl) ?_
      refine RW.op1 rfl (runs_add rfl rfl (by omega)) ?_
      refine RW.op1 rfl (runs_move rfl) ?_
      refine RW.op1 rfl (runs_geq rfl rfl) ?_
      refine RW.done ?_
      refine AQ.next ?_
      refine CW.cond rfl (fun hc30 => ?_) (fun hc30 => ?_)
      · have hcb30 := hc30
        try simp only [decide_eq_true_eq, decide_eq_false_iff_not] at hc30
        have hbad : ¬ (at_ + (k : Int) < end_ ∧ okP S at_ k) := fun h => by omega
        refine CW.seq ?_
        -- region 5
        refine CW.region ?_
        refine RW.op1 rfl (runs_buildF (cells := [_, _]) bz38 rfl rfl rfl rfl rfl) ?_
        first
          | refine RW.opE0 (runs_storeW ti38 rfl rfl hst (k := 0) rfl rfl rfl (NoFz.zero _) rfl) ?_
          | refine RW.opE0 (runs_storeP ti38 rfl rfl hst (k := 0) rfl rfl rfl (NoFz.zero _) rfl) ?_
          | refine RW.opE0 (runs_storeW ti38 rfl rfl hst (k := 1) rfl rfl rfl (NoFz.zero _) rfl) ?_
          | refine RW.opE0 (runs_storeP ti38 rfl rfl hst (k := 1) rfl rfl rfl (NoFz.zero _) rfl) ?_
          | refine RW.opE0 (runs_storeW ti38 rfl rfl hst (k := 2) rfl rfl rfl (NoFz.zero _) rfl) ?_
          | refine RW.opE0 (runs_storeP ti38 rfl rfl hst (k := 2) rfl rfl rfl (NoFz.zero _) rfl) ?_
        rintro w hstn
        clear hst
        have hst := hstn
        clear hstn
        try simp only [List.set_cons_zero, List.set_cons_succ] at hst
        refine RW.op1 rfl (runs_assign rfl) ?_
        refine RW.op1 rfl (runs_assign rfl) ?_
        refine RW.op1 rfl (runs_assign rfl) ?_
        refine RW.done ?_
        refine AQ.next ?_
        refine CW.ret ?_
        refine AQ.past_ret ?_
        refine AQ.block_ret ?_
        refine AQ.past_ret ?_
        refine AQ.past_ret ?_
        refine AQ.block_ret ?_
        refine AQ.past_ret ?_
        refine AQ.retL (rs := [.cell 6 38, .tmp 7, .tmp 8, .tmp 9]) (vs := [_, _, _, _]) rfl ⟨⟨_, rfl, hst.loadN (vs := [_, _]) (k := 0) ag38 ti38 rfl rfl rfl⟩, rfl, rfl, rfl, trivial⟩ (by simp) ?_
        have hdn : S.down = false := by
          rcases hkk with h | h
          · omega
          · exact h.2.2.2.2.2
        exact ⟨_, _, 0, 0, [], 0, 2, hle, rfl, hst.sub ((List.sublist_append_right _ _).trans (List.sublist_cons_self _ _)), RdL.nil 1, .inr ⟨hdn, .inr ⟨k, hpre, hall, hbad, rfl, rfl, rfl, rfl, rfl⟩⟩⟩
      · have hcb30 := hc30
        try simp only [decide_eq_true_eq, decide_eq_false_iff_not] at hc30
        have hin : at_ + (k : Int) < end_ := by omega
        refine CW.skip ?_
        refine AQ.next ?_
        refine CW.seq ?_
        -- region 6
        refine CW.region ?_
        refine RW.op1 rfl (runs_move rfl) ?_
        refine RW.op1 rfl (runs_move rfl) ?_
        refine RW.op1 rfl (runs_move rfl) ?_
        refine RW.op1 rfl (runs_add rfl rfl (by omega)) ?_
        refine RW.call rfl call40 rfl rfl (read_spec hd (hst.perm (perm_in _ Lb Ld L)) (at_ + (k : Int))) ?_
        rintro e w ⟨I3, vS, hI3, rfl, hstn, hS⟩
        clear hst
        have hst := hstn
        clear hstn
        replace hst := hst.perm (perm_in _ Lb Ld L).symm
        replace hle := hle.trans hI3
        refine ⟨_, rfl, ?_⟩
        refine RW.op1 rfl (runs_move rfl) ?_
        refine RW.op1 rfl (runs_extract rfl rfl) ?_
        refine RW.op1 rfl (runs_extract rfl rfl) ?_
        refine RW.op1 rfl (runs_assign rfl) ?_
        refine RW.op1 rfl (runs_assign rfl) ?_
        refine RW.done ?_
        refine AQ.next ?_
        refine CW.seq ?_
        refine CW.seq ?_
        -- region 7
        refine CW.region ?_
        refine RW.op1 rfl (runs_move rfl) ?_
        refine RW.op1 rfl (runs_neI rfl rfl) ?_
        refine RW.done ?_
        refine AQ.next ?_
        refine CW.cond rfl (fun hc41 => ?_) (fun hc41 => ?_)
        · have hcb41 := hc41
          try simp only [decide_eq_true_eq, decide_eq_false_iff_not] at hc41
          have hdn : S.down = true := by
            cases hdn : S.down
            · exact absurd (may_in hdn (by omega) (by omega)) hc41
            · rfl
          rw [may_down hdn]
          refine CW.seq ?_
          -- region 8
          refine CW.region ?_
          refine RW.op1 rfl (runs_buildF (cells := [_, _]) bz38 rfl rfl rfl rfl rfl) ?_
          refine RW.op1 rfl (runs_move rfl) ?_
          first
            | refine RW.opE0 (runs_storeW ti38 rfl rfl hst (k := 0) rfl rfl rfl (NoFz.zero _) rfl) ?_
            | refine RW.opE0 (runs_storeP ti38 rfl rfl hst (k := 0) rfl rfl rfl (NoFz.zero _) rfl) ?_
            | refine RW.opE0 (runs_storeW ti38 rfl rfl hst (k := 1) rfl rfl rfl (NoFz.zero _) rfl) ?_
            | refine RW.opE0 (runs_storeP ti38 rfl rfl hst (k := 1) rfl rfl rfl (NoFz.zero _) rfl) ?_
            | refine RW.opE0 (runs_storeW ti38 rfl rfl hst (k := 2) rfl rfl rfl (NoFz.zero _) rfl) ?_
            | refine RW.opE0 (runs_storeP ti38 rfl rfl hst (k := 2) rfl rfl rfl (NoFz.zero _) rfl) ?_
          rintro w hstn
          clear hst
          have hst := hstn
          clear hstn
          try simp only [List.set_cons_zero, List.set_cons_succ] at hst
          refine RW.op1 rfl (runs_assign rfl) ?_
          refine RW.op1 rfl (runs_assign rfl) ?_
          refine RW.op1 rfl (runs_assign rfl) ?_
          refine RW.done ?_
          refine AQ.next ?_
          refine CW.ret ?_
          refine AQ.past_ret ?_
          refine AQ.block_ret ?_
          refine AQ.past_ret ?_
          refine AQ.past_ret ?_
          refine AQ.block_ret ?_
          refine AQ.past_ret ?_
          refine AQ.retL (rs := [.cell 6 38, .tmp 7, .tmp 8, .tmp 9]) (vs := [_, _, _, _]) rfl ⟨⟨_, rfl, hst.loadN (vs := [_, _]) (k := 0) ag38 ti38 rfl rfl rfl⟩, rfl, rfl, rfl, trivial⟩ (by simp) ?_
          exact ⟨_, _, 0, 0, [], 0, 8, hle, rfl, hst.sub ((List.sublist_append_right _ _).trans (List.sublist_cons_self _ _)), RdL.nil 1, .inl ⟨hdn, rfl, rfl, rfl, rfl, rfl⟩⟩
        · have hcb41 := hc41
          try simp only [decide_eq_true_eq, decide_eq_false_iff_not] at hc41
          have hm0 : mayR S (at_ + (k : Int)) = 0 := by omega
          have hdn : S.down = false := (mayR_ok hm0).1
          rw [if_pos hm0] at hS
          have hSl := readR_len hok (a := at_ + (k : Int)) (by omega) (by omega)
          refine CW.skip ?_
          refine AQ.next ?_
          refine CW.seq ?_
          -- region 9
          refine CW.region ?_
          refine RW.op1 rfl (runs_move rfl) ?_
          refine RW.call rfl call41 rfl rfl (open_spec hst hS (by omega)) ?_
          rintro e w ⟨I5, vO, hI5, rfl, hstn, hO⟩
          clear hst
          have hst := hstn
          clear hstn
          rw [show openR (readR S (at_ + (k : Int))) = oAt S at_ k from rfl] at hO ⊢
          have hon : 0 ≤ (oAt S at_ k).n ∧ (oAt S at_ k).n ≤ 255 := openR_nlim _
          have hob : (oAt S at_ k).b.length ≤ 32 := by rw [← hSl]; exact openR_blen _
          replace hS := hS.mono hI5
          replace hle := hle.trans hI5
          refine ⟨_, rfl, ?_⟩
          refine RW.op1 rfl (runs_move rfl) ?_
          refine RW.op1 rfl (runs_extract rfl rfl) ?_
          refine RW.op1 rfl (runs_extract rfl rfl) ?_
          refine RW.op1 rfl (runs_extract rfl rfl) ?_
          refine RW.op1 rfl (runs_extract rfl rfl) ?_
          refine RW.op1 rfl (runs_extract rfl rfl) ?_
          refine RW.opE rfl (runs_alloc ti38 hst) ?_
          rintro _ w ⟨b6, rfl, hstn⟩
          clear hst
          have hst := hstn
          clear hstn
          first
            | refine RW.opE0 (runs_storeW ti38 rfl rfl hst (k := 0) rfl rfl rfl (NoFz.zero _) rfl) ?_
            | refine RW.opE0 (runs_storeP ti38 rfl rfl hst (k := 0) rfl rfl rfl (NoFz.zero _) rfl) ?_
            | refine RW.opE0 (runs_storeW ti38 rfl rfl hst (k := 1) rfl rfl rfl (NoFz.zero _) rfl) ?_
            | refine RW.opE0 (runs_storeP ti38 rfl rfl hst (k := 1) rfl rfl rfl (NoFz.zero _) rfl) ?_
            | refine RW.opE0 (runs_storeW ti38 rfl rfl hst (k := 2) rfl rfl rfl (NoFz.zero _) rfl) ?_
            | refine RW.opE0 (runs_storeP ti38 rfl rfl hst (k := 2) rfl rfl rfl (NoFz.zero _) rfl) ?_
          rintro w hstn
          clear hst
          have hst := hstn
          clear hstn
          try simp only [List.set_cons_zero, List.set_cons_succ] at hst
          refine RW.op1 rfl (runs_assign rfl) ?_
          refine RW.op1 rfl (runs_assign rfl) ?_
          refine RW.op1 rfl (runs_assign rfl) ?_
          refine RW.op1 rfl (runs_assign rfl) ?_
          refine RW.done ?_
          refine AQ.next ?_
          refine CW.seq ?_
          refine CW.seq ?_
          -- region 10
          refine CW.region ?_
          refine RW.op1 rfl (runs_move rfl) ?_
          refine RW.op1 rfl (runs_eqI rfl rfl) ?_
          refine RW.done ?_
          refine AQ.next ?_
          refine CW.cut Unit (fun _ w => St w0 w I5 ((b6, .cells #[.int .i64 (oAt S at_ k).e, .int .i64 (oAt S at_ k).q] 38) :: (b1, .cells #[.int .i64 (oAt S at_ 0).e, .int .i64 (oAt S at_ 0).q] 38) :: (Lb ++ (Ld ++ L)))) (fun _ => [(0, d), (1, .int .i64 at_), (2, .int .i64 end_), (6, .pointer (some ⟨b1, 0, none⟩)), (7, vb), (8, .int .i64 (oAt S at_ 0).n), (10, .int .i64 (k : Int)), (13, .pointer (some ⟨b6, 0, none⟩)), (14, .int .i64 (oAt S at_ k).p), (15, .int .i64 (oAt S at_ k).n), (16, vO), (12, .int .i64 (oAt S at_ k).err)]) ?_ ?_
          · refine CW.cond rfl (fun hc53 => ?_) (fun hc53 => ?_)
            · have hcb53 := hc53
              try simp only [decide_eq_true_eq, decide_eq_false_iff_not] at hc53
              -- region 11
              refine CW.region ?_
              first
                | refine RW.op1 rfl (runs_loadN (vs := [_, _]) ag38 ti38 rfl hst (k := 0) rfl rfl rfl) ?_
                | refine RW.op1 rfl (runs_loadN (vs := [_, _]) ag38 ti38 rfl hst (k := 1) rfl rfl rfl) ?_
                | refine RW.op1 rfl (runs_loadN (vs := [_, _]) ag38 ti38 rfl hst (k := 2) rfl rfl rfl) ?_
              refine RW.op1 rfl (runs_move rfl) ?_
              first
                | refine RW.opE0 (runs_storeW ti38 rfl rfl hst (k := 0) rfl rfl rfl (NoFz.zero _) rfl) ?_
                | refine RW.opE0 (runs_storeP ti38 rfl rfl hst (k := 0) rfl rfl rfl (NoFz.zero _) rfl) ?_
                | refine RW.opE0 (runs_storeW ti38 rfl rfl hst (k := 1) rfl rfl rfl (NoFz.zero _) rfl) ?_
                | refine RW.opE0 (runs_storeP ti38 rfl rfl hst (k := 1) rfl rfl rfl (NoFz.zero _) rfl) ?_
                | refine RW.opE0 (runs_storeW ti38 rfl rfl hst (k := 2) rfl rfl rfl (NoFz.zero _) rfl) ?_
                | refine RW.opE0 (runs_storeP ti38 rfl rfl hst (k := 2) rfl rfl rfl (NoFz.zero _) rfl) ?_
              rintro w hstn
              clear hst
              have hst := hstn
              clear hstn
              try simp only [List.set_cons_zero, List.set_cons_succ] at hst
              refine RW.op1 rfl (runs_assign rfl) ?_
              refine RW.done ?_
              first
                | (obtain rfl : k = 0 := by omega
                   exact AQ.meet () hst ⟨rfl, rfl, rfl, rfl, rfl, rfl, rfl, rfl, rfl, rfl, rfl, rfl, trivial⟩)
                | (obtain ⟨e1, e2, e3⟩ : me = (oAt S at_ 0).e ∧ mq = (oAt S at_ 0).q ∧ pn = (oAt S at_ 0).n := by omega
                   subst e1 e2 e3
                   exact AQ.meet () hst ⟨rfl, rfl, rfl, rfl, rfl, rfl, rfl, rfl, rfl, rfl, rfl, rfl, trivial⟩)
            · have hcb53 := hc53
              try simp only [decide_eq_true_eq, decide_eq_false_iff_not] at hc53
              refine CW.skip ?_
              first
                | (obtain rfl : k = 0 := by omega
                   exact AQ.meet () hst ⟨rfl, rfl, rfl, rfl, rfl, rfl, rfl, rfl, rfl, rfl, rfl, rfl, trivial⟩)
                | (obtain ⟨e1, e2, e3⟩ : me = (oAt S at_ 0).e ∧ mq = (oAt S at_ 0).q ∧ pn = (oAt S at_ 0).n := by omega
                   subst e1 e2 e3
                   exact AQ.meet () hst ⟨rfl, rfl, rfl, rfl, rfl, rfl, rfl, rfl, rfl, rfl, rfl, rfl, trivial⟩)
          · rintro _ w hstn
            clear hst
            have hst := hstn
            clear hstn
            refine AQ.next ?_
            refine CW.seq ?_
            refine CW.seq ?_
            -- region 12
            refine CW.cut Unit (fun _ w => St w0 w I5 ((b6, .cells #[.int .i64 (oAt S at_ k).e, .int .i64 (oAt S at_ k).q] 38) :: (b1, .cells #[.int .i64 (oAt S at_ 0).e, .int .i64 (oAt S at_ 0).q] 38) :: (Lb ++ (Ld ++ L)))) (fun _ => [(0, d), (1, .int .i64 at_), (2, .int .i64 end_), (6, .pointer (some ⟨b1, 0, none⟩)), (7, vb), (8, .int .i64 (oAt S at_ 0).n), (10, .int .i64 (k : Int)), (16, vO), (83, .bool (decide (¬ okP S at_ k)))]) ?_ ?_
            · -- region 12
              refine CW.region ?_
              refine RW.op1 rfl (runs_move rfl) ?_
              refine RW.op1 rfl (runs_neI rfl rfl) ?_
              refine RW.op1 rfl (runs_move rfl) ?_
              refine RW.split (t := 58) rfl (fun hb58 => ?_) (fun hb58 => ?_)
              · have hb58p := hb58
                try simp only [decide_eq_true_eq, decide_eq_false_iff_not] at hb58p
                refine RW.off_guard rfl rfl rfl rfl hb58 ?_
                refine RW.off_guard rfl rfl rfl rfl hb58 ?_
                refine RW.off_guard rfl rfl rfl rfl hb58 ?_
                refine RW.op1 rfl (runs_pick_true rfl hb58 rfl) ?_
                refine RW.op1 rfl (runs_move rfl) ?_
                refine RW.off_guard rfl rfl rfl rfl rfl ?_
                refine RW.off_guard rfl rfl rfl rfl rfl ?_
                refine RW.off_guard rfl rfl rfl rfl rfl ?_
                refine RW.op1 rfl (runs_pick_true rfl rfl rfl) ?_
                refine RW.op1 rfl (runs_move rfl) ?_
                refine RW.off_guard rfl rfl rfl rfl rfl ?_
                refine RW.off_guard rfl rfl rfl rfl rfl ?_
                refine RW.off_guard rfl rfl rfl rfl rfl ?_
                refine RW.op1 rfl (runs_pick_true rfl rfl rfl) ?_
                refine RW.op1 rfl (runs_move rfl) ?_
                refine RW.off_guard rfl rfl rfl rfl rfl ?_
                refine RW.off_guard rfl rfl rfl rfl rfl ?_
                refine RW.off_guard rfl rfl rfl rfl rfl ?_
                refine RW.off_guard rfl rfl rfl rfl rfl ?_
                refine RW.off_guard rfl rfl rfl rfl rfl ?_
                refine RW.off_undef rfl rfl rfl rfl ?_
                refine RW.off_undef rfl rfl rfl rfl ?_
                refine RW.off_undef rfl rfl rfl rfl ?_
                refine RW.off_guard rfl rfl rfl rfl rfl ?_
                refine RW.op1 rfl (runs_pick_true rfl rfl rfl) ?_
                refine RW.done ?_
                exact AQ.meet () hst ⟨rfl, rfl, rfl, rfl, rfl, rfl, rfl, rfl, boolN (by unfold okP; simp_all <;> omega), trivial⟩
              · have hb58p := hb58
                try simp only [decide_eq_true_eq, decide_eq_false_iff_not] at hb58p
                refine RW.on_guard rfl rfl rfl rfl hb58 ?_
                first
                  | refine RW.op1 rfl (runs_loadN (vs := [_, _]) ag38 ti38 rfl hst (k := 0) rfl rfl rfl) ?_
                  | refine RW.op1 rfl (runs_loadN (vs := [_, _]) ag38 ti38 rfl hst (k := 1) rfl rfl rfl) ?_
                  | refine RW.op1 rfl (runs_loadN (vs := [_, _]) ag38 ti38 rfl hst (k := 2) rfl rfl rfl) ?_
                refine RW.on_guard rfl rfl rfl rfl hb58 ?_
                first
                  | refine RW.op1 rfl (runs_loadN (vs := [_, _]) ag38 ti38 rfl hst (k := 0) rfl rfl rfl) ?_
                  | refine RW.op1 rfl (runs_loadN (vs := [_, _]) ag38 ti38 rfl hst (k := 1) rfl rfl rfl) ?_
                  | refine RW.op1 rfl (runs_loadN (vs := [_, _]) ag38 ti38 rfl hst (k := 2) rfl rfl rfl) ?_
                refine RW.on_guard rfl rfl rfl rfl hb58 ?_
                refine RW.op1 rfl (runs_neZ (xs := [_, _]) (ys := [_, _]) ez38 rfl rfl rfl rfl) ?_
                refine RW.op1 rfl (runs_pick_false rfl hb58 rfl) ?_
                refine RW.op1 rfl (runs_move rfl) ?_
                refine RW.split (t := 63) rfl (fun hb63 => ?_) (fun hb63 => ?_)
                · have hb63p := hb63
                  try simp only [decide_eq_true_eq, decide_eq_false_iff_not] at hb63p
                  refine RW.off_guard rfl rfl rfl rfl hb63 ?_
                  refine RW.off_guard rfl rfl rfl rfl hb63 ?_
                  refine RW.off_guard rfl rfl rfl rfl hb63 ?_
                  refine RW.op1 rfl (runs_pick_true rfl hb63 rfl) ?_
                  refine RW.op1 rfl (runs_move rfl) ?_
                  refine RW.off_guard rfl rfl rfl rfl rfl ?_
                  refine RW.off_guard rfl rfl rfl rfl rfl ?_
                  refine RW.off_guard rfl rfl rfl rfl rfl ?_
                  refine RW.op1 rfl (runs_pick_true rfl rfl rfl) ?_
                  refine RW.op1 rfl (runs_move rfl) ?_
                  refine RW.off_guard rfl rfl rfl rfl rfl ?_
                  refine RW.off_guard rfl rfl rfl rfl rfl ?_
                  refine RW.off_guard rfl rfl rfl rfl rfl ?_
                  refine RW.off_guard rfl rfl rfl rfl rfl ?_
                  refine RW.off_guard rfl rfl rfl rfl rfl ?_
                  refine RW.off_undef rfl rfl rfl rfl ?_
                  refine RW.off_undef rfl rfl rfl rfl ?_
                  refine RW.off_undef rfl rfl rfl rfl ?_
                  refine RW.off_guard rfl rfl rfl rfl rfl ?_
                  refine RW.op1 rfl (runs_pick_true rfl rfl rfl) ?_
                  refine RW.done ?_
                  exact AQ.meet () hst ⟨rfl, rfl, rfl, rfl, rfl, rfl, rfl, rfl, boolN (by unfold okP; simp_all <;> omega), trivial⟩
                · have hb63p := hb63
                  try simp only [decide_eq_true_eq, decide_eq_false_iff_not] at hb63p
                  refine RW.on_guard rfl rfl rfl rfl hb63 ?_
                  refine RW.op1 rfl (runs_move rfl) ?_
                  refine RW.on_guard rfl rfl rfl rfl hb63 ?_
                  refine RW.op1 rfl (runs_move rfl) ?_
                  refine RW.on_guard rfl rfl rfl rfl hb63 ?_
                  refine RW.op1 rfl (runs_neI rfl rfl) ?_
                  refine RW.op1 rfl (runs_pick_false rfl hb63 rfl) ?_
                  refine RW.op1 rfl (runs_move rfl) ?_
                  refine RW.split (t := 68) rfl (fun hb68 => ?_) (fun hb68 => ?_)
                  · have hb68p := hb68
                    try simp only [decide_eq_true_eq, decide_eq_false_iff_not] at hb68p
                    refine RW.off_guard rfl rfl rfl rfl hb68 ?_
                    refine RW.off_guard rfl rfl rfl rfl hb68 ?_
                    refine RW.off_guard rfl rfl rfl rfl hb68 ?_
                    refine RW.op1 rfl (runs_pick_true rfl hb68 rfl) ?_
                    refine RW.op1 rfl (runs_move rfl) ?_
                    refine RW.off_guard rfl rfl rfl rfl rfl ?_
                    refine RW.off_guard rfl rfl rfl rfl rfl ?_
                    refine RW.off_guard rfl rfl rfl rfl rfl ?_
                    refine RW.off_guard rfl rfl rfl rfl rfl ?_
                    refine RW.off_guard rfl rfl rfl rfl rfl ?_
                    refine RW.off_undef rfl rfl rfl rfl ?_
                    refine RW.off_undef rfl rfl rfl rfl ?_
                    refine RW.off_undef rfl rfl rfl rfl ?_
                    refine RW.off_guard rfl rfl rfl rfl rfl ?_
                    refine RW.op1 rfl (runs_pick_true rfl rfl rfl) ?_
                    refine RW.done ?_
                    exact AQ.meet () hst ⟨rfl, rfl, rfl, rfl, rfl, rfl, rfl, rfl, boolN (by unfold okP; simp_all <;> omega), trivial⟩
                  · have hb68p := hb68
                    try simp only [decide_eq_true_eq, decide_eq_false_iff_not] at hb68p
                    refine RW.on_guard rfl rfl rfl rfl hb68 ?_
                    refine RW.op1 rfl (runs_move rfl) ?_
                    refine RW.on_guard rfl rfl rfl rfl hb68 ?_
                    refine RW.op1 rfl (runs_move rfl) ?_
                    refine RW.on_guard rfl rfl rfl rfl hb68 ?_
                    refine RW.op1 rfl (runs_neI rfl rfl) ?_
                    refine RW.op1 rfl (runs_pick_false rfl hb68 rfl) ?_
                    refine RW.op1 rfl (runs_move rfl) ?_
                    refine RW.split (t := 73) rfl (fun hb73 => ?_) (fun hb73 => ?_)
                    · have hb73p := hb73
                      try simp only [decide_eq_true_eq, decide_eq_false_iff_not] at hb73p
                      refine RW.off_guard rfl rfl rfl rfl hb73 ?_
                      refine RW.off_guard rfl rfl rfl rfl hb73 ?_
                      refine RW.off_guard rfl rfl rfl rfl hb73 ?_
                      refine RW.off_guard rfl rfl rfl rfl hb73 ?_
                      refine RW.off_guard rfl rfl rfl rfl hb73 ?_
                      refine RW.off_undef rfl rfl rfl rfl ?_
                      refine RW.off_undef rfl rfl rfl rfl ?_
                      refine RW.off_undef rfl rfl rfl rfl ?_
                      refine RW.off_guard rfl rfl rfl rfl hb73 ?_
                      refine RW.op1 rfl (runs_pick_true rfl hb73 rfl) ?_
                      refine RW.done ?_
                      exact AQ.meet () hst ⟨rfl, rfl, rfl, rfl, rfl, rfl, rfl, rfl, boolN (by unfold okP; simp_all <;> omega), trivial⟩
                    · have hb73p := hb73
                      try simp only [decide_eq_true_eq, decide_eq_false_iff_not] at hb73p
                      refine RW.on_guard rfl rfl rfl rfl hb73 ?_
                      refine RW.op1 rfl (runs_move rfl) ?_
                      refine RW.on_guard rfl rfl rfl rfl hb73 ?_
                      refine RW.op1 rfl (runs_move rfl) ?_
                      refine RW.on_guard rfl rfl rfl rfl hb73 ?_
                      refine RW.op1 rfl (runs_sub rfl rfl (by omega)) ?_
                      refine RW.on_guard rfl rfl rfl rfl hb73 ?_
                      refine RW.op1 rfl (runs_lss rfl rfl) ?_
                      refine RW.on_guard rfl rfl rfl rfl hb73 ?_
                      refine RW.op1 rfl (runs_move rfl) ?_
                      refine RW.split (t := 78) rfl (fun hb78 => ?_) (fun hb78 => ?_)
                      · have hb78p := hb78
                        try simp only [decide_eq_true_eq, decide_eq_false_iff_not] at hb78p
                        refine RW.on_guard rfl rfl rfl rfl hb78 ?_
                        refine RW.op1 rfl (runs_move rfl) ?_
                        refine RW.on_guard rfl rfl rfl rfl hb78 ?_
                        refine RW.op1 rfl (RdL.len Try.underlying33 rfl hO) ?_
                        refine RW.on_guard rfl rfl rfl rfl hb78 ?_
                        refine RW.op1 rfl (runs_lss rfl rfl) ?_
                        refine RW.on_guard rfl rfl rfl rfl hb73 ?_
                        refine RW.op1 rfl (runs_pick_true rfl hb78 rfl) ?_
                        refine RW.op1 rfl (runs_pick_false rfl hb73 rfl) ?_
                        refine RW.done ?_
                        exact AQ.meet () hst ⟨rfl, rfl, rfl, rfl, rfl, rfl, rfl, rfl, boolN (by unfold okP; simp_all <;> omega), trivial⟩
                      · have hb78p := hb78
                        try simp only [decide_eq_true_eq, decide_eq_false_iff_not] at hb78p
                        refine RW.off_guard rfl rfl rfl rfl hb78 ?_
                        refine RW.off_guard rfl rfl rfl rfl hb78 ?_
                        refine RW.off_guard rfl rfl rfl rfl hb78 ?_
                        refine RW.on_guard rfl rfl rfl rfl hb73 ?_
                        refine RW.op1 rfl (runs_pick_false rfl hb78 rfl) ?_
                        refine RW.op1 rfl (runs_pick_false rfl hb73 rfl) ?_
                        refine RW.done ?_
                        exact AQ.meet () hst ⟨rfl, rfl, rfl, rfl, rfl, rfl, rfl, rfl, boolN (by unfold okP; simp_all <;> omega), trivial⟩
            · rintro _ w hstn
              clear hst
              have hst := hstn
              clear hstn
              refine AQ.next ?_
              refine CW.cond rfl (fun hc83 => ?_) (fun hc83 => ?_)
              · have hcb83 := hc83
                try simp only [decide_eq_true_eq, decide_eq_false_iff_not] at hc83
                have hbad : ¬ (at_ + (k : Int) < end_ ∧ okP S at_ k) := fun h => hc83 h.2
                refine CW.seq ?_
                -- region 13
                refine CW.region ?_
                refine RW.op1 rfl (runs_buildF (cells := [_, _]) bz38 rfl rfl rfl rfl rfl) ?_
                first
                  | refine RW.opE0 (runs_storeW ti38 rfl rfl hst (k := 0) rfl rfl rfl (NoFz.zero _) rfl) ?_
                  | refine RW.opE0 (runs_storeP ti38 rfl rfl hst (k := 0) rfl rfl rfl (NoFz.zero _) rfl) ?_
                  | refine RW.opE0 (runs_storeW ti38 rfl rfl hst (k := 1) rfl rfl rfl (NoFz.zero _) rfl) ?_
                  | refine RW.opE0 (runs_storeP ti38 rfl rfl hst (k := 1) rfl rfl rfl (NoFz.zero _) rfl) ?_
                  | refine RW.opE0 (runs_storeW ti38 rfl rfl hst (k := 2) rfl rfl rfl (NoFz.zero _) rfl) ?_
                  | refine RW.opE0 (runs_storeP ti38 rfl rfl hst (k := 2) rfl rfl rfl (NoFz.zero _) rfl) ?_
                rintro w hstn
                clear hst
                have hst := hstn
                clear hstn
                try simp only [List.set_cons_zero, List.set_cons_succ] at hst
                refine RW.op1 rfl (runs_assign rfl) ?_
                refine RW.op1 rfl (runs_assign rfl) ?_
                refine RW.op1 rfl (runs_assign rfl) ?_
                refine RW.done ?_
                refine AQ.next ?_
                refine CW.ret ?_
                refine AQ.past_ret ?_
                refine AQ.block_ret ?_
                refine AQ.past_ret ?_
                refine AQ.past_ret ?_
                refine AQ.block_ret ?_
                refine AQ.past_ret ?_
                refine AQ.retL (rs := [.cell 6 38, .tmp 7, .tmp 8, .tmp 9]) (vs := [_, _, _, _]) rfl ⟨⟨_, rfl, hst.loadN (vs := [_, _]) (k := 1) ag38 ti38 rfl rfl rfl⟩, rfl, rfl, rfl, trivial⟩ (by simp) ?_
                exact ⟨_, _, 0, 0, [], 0, 2, hle, rfl, hst.sub (((List.sublist_append_right _ _).trans (List.sublist_cons_self _ _)).trans (List.sublist_cons_self _ _)), RdL.nil 1, .inr ⟨hdn, .inr ⟨k, hpre, hall, hbad, rfl, rfl, rfl, rfl, rfl⟩⟩⟩
              · have hcb83 := hc83
                try simp only [decide_eq_true_eq, decide_eq_false_iff_not] at hc83
                have hokk : okP S at_ k := by simpa using hc83
                have hgl := gB_len hok (at_ := at_) k (fun j hj => by have := (hall j hj).1; omega)
                refine CW.skip ?_
                refine AQ.next ?_
                -- region 14
                refine CW.region ?_
                refine RW.op1 rfl (runs_move rfl) ?_
                refine RW.op1 rfl (runs_move rfl) ?_
                refine RW.opE rfl (runs_appendB Try.underlying33 ti5 rfl rfl (hst.perm (perm_two2 _ _ Lb (Ld ++ L))) hgb hO (by omega)) ?_
                rintro u10 w ⟨Lv10, hstn, hg10⟩
                clear hst
                have hst := hstn
                clear hstn
                have hgN : GrowB 5 u10 (gB S at_ (k + 1)) Lv10 := by
                  show GrowB _ _ (gB S at_ k ++ (oAt S at_ k).b) _
                  exact hg10
                replace hst := hst.perm (perm_two2 _ _ Lv10 (Ld ++ L)).symm
                refine RW.op1 rfl (runs_assign rfl) ?_
                refine RW.done ?_
                refine AQ.block_normal ?_
                refine AQ.next ?_
                -- region 3
                refine CW.region ?_
                refine RW.op1 rfl (runs_move rfl) ?_
                refine RW.op1 rfl (runs_add rfl rfl (by omega)) ?_
                refine RW.op1 rfl (runs_assign rfl) ?_
                refine RW.done ?_
                exact AQ.again (x := (k, IK, vb, Lb, me, mq, pn)) (k + 1, _, _, _, _, _, _) ⟨hle, hst.drop1, hgN, fun j h => by
                  by_cases hj : j < k
                  · exact hall j hj
                  · have : j = k := by omega
                    subst this
                    exact ⟨hin, hokk⟩, .inr ⟨by dsimp only; omega, rfl, rfl, rfl, by
                  have h1 := hokk.1
                  have h2 := openR_pos (s := readR S (at_ + (k : Int))) h1
                  have h3 := hokk.2.2.1
                  have h4 := hokk.2.2.2.1
                  have h5 : (oAt S at_ k).p < (oAt S at_ k).n := h2.1
                  dsimp only
                  omega, hdn⟩⟩ ⟨rfl, rfl, rfl, rfl, rfl, rfl, rfl, trivial⟩ (by dsimp only; omega)
    · have hcb23 := hc23
      try simp only [decide_eq_true_eq, decide_eq_false_iff_not] at hc23
      have hkn : (oAt S at_ 0).n = (k : Nat) ∧ 1 ≤ k := by omega
      refine CW.exit ?_
      refine AQ.past_exit ?_
      refine AQ.past_exit ?_
      refine AQ.block_hit ?_
      refine AQ.next ?_
      refine CW.seq ?_
      -- region 15
      refine CW.region ?_
      first
        | refine RW.op1 rfl (runs_loadN (vs := [_, _]) ag38 ti38 rfl hst (k := 0) rfl rfl rfl) ?_
        | refine RW.op1 rfl (runs_loadN (vs := [_, _]) ag38 ti38 rfl hst (k := 1) rfl rfl rfl) ?_
        | refine RW.op1 rfl (runs_loadN (vs := [_, _]) ag38 ti38 rfl hst (k := 2) rfl rfl rfl) ?_
      refine RW.op1 rfl (runs_move rfl) ?_
      refine RW.op1 rfl (runs_move rfl) ?_
      first
        | refine RW.opE0 (runs_storeW ti38 rfl rfl hst (k := 0) rfl rfl rfl (NoFz.zero _) rfl) ?_
        | refine RW.opE0 (runs_storeP ti38 rfl rfl hst (k := 0) rfl rfl rfl (NoFz.zero _) rfl) ?_
        | refine RW.opE0 (runs_storeW ti38 rfl rfl hst (k := 1) rfl rfl rfl (NoFz.zero _) rfl) ?_
        | refine RW.opE0 (runs_storeP ti38 rfl rfl hst (k := 1) rfl rfl rfl (NoFz.zero _) rfl) ?_
        | refine RW.opE0 (runs_storeW ti38 rfl rfl hst (k := 2) rfl rfl rfl (NoFz.zero _) rfl) ?_
        | refine RW.opE0 (runs_storeP ti38 rfl rfl hst (k := 2) rfl rfl rfl (NoFz.zero _) rfl) ?_
      rintro w hstn
      clear hst
      have hst := hstn
      clear hstn
      try simp only [List.set_cons_zero, List.set_cons_succ] at hst
      refine RW.op1 rfl (runs_assign rfl) ?_
      refine RW.op1 rfl (runs_assign rfl) ?_
      refine RW.op1 rfl (runs_assign rfl) ?_
      refine RW.done ?_
      refine AQ.next ?_
      refine CW.ret ?_
      refine AQ.retL (rs := [.cell 6 38, .tmp 7, .tmp 8, .tmp 9]) (vs := [_, _, _, _]) rfl ⟨⟨_, rfl, hst.loadN (vs := [_, _]) (k := 0) ag38 ti38 rfl rfl rfl⟩, rfl, rfl, rfl, trivial⟩ (by simp) ?_
      obtain ⟨h1, rfl, rfl, rfl, h2, hdn⟩ : 1 ≤ k ∧ me = (oAt S at_ 0).e ∧ mq = (oAt S at_ 0).q ∧ pn = (oAt S at_ 0).n ∧ (k : Int) ≤ (oAt S at_ 0).n ∧ S.down = false := by
        rcases hkk with h | h
        · omega
        · exact h
      obtain ⟨I', hI', hst', hr'⟩ := GrowB.freeze hgb (hst.sub (List.sublist_cons_self _ _))
      exact ⟨I', _, _, _, _, _, 0, hle.trans hI', rfl, hst', hr', .inr ⟨hdn, .inl ⟨k, h1, hkn.1, hall, rfl, rfl, rfl, hkn.1, rfl⟩⟩⟩
end Go.Proofs.YthocicjjighbnaaX
