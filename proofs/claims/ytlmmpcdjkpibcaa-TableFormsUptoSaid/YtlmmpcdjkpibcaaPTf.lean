/- Parts of a proof, joined: walks through the program's functions and their laws, in the order in which they need each other. -/
import Derived.Test.YtlmmpcdjkpibcaaPTe
import Derived.Test.YtlmmpcdjkpibcaaPTb
import Derived.Lib.SplitLaws
import Derived.Lib.SlicesS
namespace Go.Proofs.YtlmmpcdjkpibcaaX
set_option linter.unusedVariables false
set_option linter.unusedSimpArgs false
open Go Go.RowKit
abbrev irow2 (it : It) (vh : Value) : List Value := [.int .i64 it.id, .int .i64 it.kind, .int .i64 it.group, .string it.name, .string it.method, .string it.url, vh, .string it.body, .int .i64 it.mode, .int .i64 it.creds, .string it.page, .string it.csp, .int .i64 it.refer, .string it.nurl, .string it.nmethod, .string it.nbody, .int .i64 it.hops, .int .i64 it.tries, .int .i64 it.til, .bool it.tainted, .string it.got, .string it.tag, .int .i64 it.state, .int .i64 it.code, .bool it.acked]
def irow (p : It × Value) : List Value := irow2 p.1 p.2
theorem irow_len (p : It × Value) : (irow p).length = 25 := rfl
theorem irow_at {rows : List (It × Value)} {k : Nat} {it : It} {vh : Value} (hr : rows[k]? = some (it, vh)) : ∀ (j : Nat) (u : Value), (irow2 it vh)[j]? = some u → (rows.flatMap irow)[(k : Int).toNat * 25 + j]? = some u := by
  intro j u hj; have hj5 : j < 25 := (List.getElem?_eq_some_iff.1 hj).1; rw [Int.toNat_natCast, getElem?_flat irow_len rows k j hj5, hr]; exact hj
def RdT (I : Imm) (v : Value) (its : List (It × Value)) : Prop := RdL I 25 v its.length (its.flatMap irow) ∧ ∀ p ∈ its, RdH I p.2 p.1.heads
theorem RdT.mono {I I' : Imm} {v : Value} {its : List (It × Value)} (h : RdT I v its) (hI : I.le I') : RdT I' v its := ⟨RdL.mono hI h.1, fun p hp => (h.2 p hp).mono hI⟩
theorem RdT.nil (I : Imm) : RdT I (.slice none 0 0) [] := ⟨RdL.nil 25, by simp⟩
def ItsOk (its : List (It × Value)) : Prop := ∀ p ∈ its, ItOk p.1 ∧ encOk (itAV p.1) = true ∧ p.1.heads.length ≤ 1000
def stepP (x : It × Value) (s : List (It × Value) × Bool) (y : It × Value) : List (It × Value) × Bool :=
  let s1 := if y.1.id ≥ x.1.id ∧ s.2 = false then (s.1 ++ [x], true) else s
  if y.1.id ≠ x.1.id then (s1.1 ++ [y], s1.2) else s1
def putA (l : List (It × Value)) (x : It × Value) : List (It × Value) × Bool := l.foldl (stepP x) ([], false)
def putT (l : List (It × Value)) (x : It × Value) : List (It × Value) := if (putA l x).2 = true then (putA l x).1 else (putA l x).1 ++ [x]
def dropT (l : List (It × Value)) (k : Int) : List (It × Value) := l.filter fun y => decide (y.1.id ≠ k)
theorem dropT_len (l : List (It × Value)) (n : Int) : (dropT l n).length ≤ l.length := List.length_filter_le _ _
abbrev Up (l : List (It × Value)) : Prop := l.Pairwise fun a b => a.1.id < b.1.id
theorem fold_done (x : It × Value) : ∀ (l acc : List (It × Value)), l.foldl (stepP x) (acc, true) = (acc ++ dropT l x.1.id, true)
  | [], acc => by simp [dropT]
  | y :: t, acc => by
    rw [List.foldl_cons]
    have e : stepP x (acc, true) y = (if y.1.id ≠ x.1.id then acc ++ [y] else acc, true) := by
      unfold stepP; dsimp only; rw [if_neg (show ¬ (y.1.id ≥ x.1.id ∧ true = false) from fun h => by cases h.2)]
      split <;> rfl
    rw [e, fold_done x t]; unfold dropT
    by_cases h : y.1.id = x.1.id
    · rw [if_neg (by simp [h])]; simp [h]
    · rw [if_pos h]; simp [h]
theorem fold_open (x : It × Value) : ∀ (l acc : List (It × Value)), Up l → (let r := l.foldl (stepP x) (acc, false); if r.2 = true then r.1 else r.1 ++ [x]) = acc ++ (l.filter (fun y => decide (y.1.id < x.1.id)) ++ x :: l.filter (fun y => decide (x.1.id < y.1.id)))
  | [], acc, _ => by simp
  | y :: t, acc, hp => by
    replace hp := List.pairwise_cons.1 hp; rw [List.foldl_cons]
    by_cases h : y.1.id ≥ x.1.id
    · have e : stepP x (acc, false) y = (if y.1.id ≠ x.1.id then acc ++ [x] ++ [y] else acc ++ [x], true) := by
        unfold stepP; dsimp only; rw [if_pos (show y.1.id ≥ x.1.id ∧ false = false from ⟨h, rfl⟩)]
        split <;> rfl
      rw [e, fold_done]
      have h1 : t.filter (fun y => decide (y.1.id < x.1.id)) = [] := List.filter_eq_nil_iff.2 fun z hz => by have := hp.1 z hz; simp; omega
      have h2 : dropT t x.1.id = t.filter (fun y => decide (x.1.id < y.1.id)) := by
        unfold dropT
        refine List.filter_congr fun z hz => ?_
        have := hp.1 z hz; rw [decide_eq_decide]; omega
      rw [h2]; dsimp only; rw [if_pos rfl, List.filter_cons, List.filter_cons, h1, if_neg (show ¬ (decide (y.1.id < x.1.id) = true) by simp; omega)]
      by_cases h3 : y.1.id = x.1.id
      · rw [if_neg (show ¬ (y.1.id ≠ x.1.id) from fun hh => hh h3), if_neg (show ¬ (decide (x.1.id < y.1.id) = true) by simp; omega)]
        simp
      · rw [if_pos (show y.1.id ≠ x.1.id from h3), if_pos (show decide (x.1.id < y.1.id) = true by simp; omega)]
        simp
    · have e : stepP x (acc, false) y = (acc ++ [y], false) := by
        unfold stepP; dsimp only; rw [if_neg (show ¬ (y.1.id ≥ x.1.id ∧ false = false) from fun hh => h hh.1), if_pos (show y.1.id ≠ x.1.id by omega)]
      rw [e, fold_open x t _ hp.2, List.filter_cons, List.filter_cons, if_pos (show decide (y.1.id < x.1.id) = true by simp; omega), if_neg (show ¬ (decide (x.1.id < y.1.id) = true) by simp; omega)]
      simp
theorem putT_eq {l : List (It × Value)} (h : Up l) (x : It × Value) : putT l x = l.filter (fun y => decide (y.1.id < x.1.id)) ++ x :: l.filter (fun y => decide (x.1.id < y.1.id)) := by
  have := fold_open x l [] h; rw [List.nil_append] at this; exact this
theorem putT_mem {l : List (It × Value)} (h : Up l) {x y : It × Value} : y ∈ putT l x ↔ y = x ∨ (y ∈ l ∧ y.1.id ≠ x.1.id) := by
  rw [putT_eq h, List.mem_append, List.mem_cons, List.mem_filter, List.mem_filter]
  simp only [decide_eq_true_eq]
  constructor
  · rintro (⟨h1, h2⟩ | rfl | ⟨h1, h2⟩)
    · exact .inr ⟨h1, by omega⟩
    · exact .inl rfl
    · exact .inr ⟨h1, by omega⟩
  · rintro (rfl | ⟨h1, h2⟩)
    · exact .inr (.inl rfl)
    · rcases Int.lt_or_gt_of_ne h2 with h3 | h3
      · exact .inl ⟨h1, h3⟩
      · exact .inr (.inr ⟨h1, h3⟩)
theorem putT_up {l : List (It × Value)} (h : Up l) (x : It × Value) : Up (putT l x) := by
  rw [putT_eq h]; unfold Up; rw [List.pairwise_append, List.pairwise_cons]; refine ⟨h.filter _, ⟨fun b hb => by simpa using (List.mem_filter.1 hb).2, h.filter _⟩, fun a ha b hb => ?_⟩
  have h1 : a.1.id < x.1.id := by simpa using (List.mem_filter.1 ha).2
  rcases List.mem_cons.1 hb with rfl | hb
  · exact h1
  · have h2 : x.1.id < b.1.id := by simpa using (List.mem_filter.1 hb).2
    omega
theorem dropT_mem {l : List (It × Value)} {k : Int} {y : It × Value} : y ∈ dropT l k ↔ y ∈ l ∧ y.1.id ≠ k := by unfold dropT; rw [List.mem_filter, decide_eq_true_eq]
theorem up_eq : ∀ {a b : List Int}, a.Pairwise (· < ·) → b.Pairwise (· < ·) → (∀ x, x ∈ a ↔ x ∈ b) → a = b
  | [], [], _, _, _ => rfl
  | [], y :: t, _, _, h => absurd ((h y).2 (List.mem_cons_self ..)) (by simp)
  | x :: s, [], _, _, h => absurd ((h x).1 (List.mem_cons_self ..)) (by simp)
  | x :: s, y :: t, ha, hb, h => by
    rw [List.pairwise_cons] at ha hb
    have exy : x = y := by
      rcases List.mem_cons.1 ((h x).1 (List.mem_cons_self ..)) with e | h1
      · exact e
      · rcases List.mem_cons.1 ((h y).2 (List.mem_cons_self ..)) with e | h2
        · exact e.symm
        · have := hb.1 x h1; have := ha.1 y h2; omega
    subst exy; rw [up_eq ha.2 hb.2 (fun z => ⟨fun hz => ?_, fun hz => ?_⟩)]
    · rcases List.mem_cons.1 ((h z).1 (List.mem_cons_of_mem _ hz)) with e | h1
      · have := ha.1 z hz; omega
      · exact h1
    · rcases List.mem_cons.1 ((h z).2 (List.mem_cons_of_mem _ hz)) with e | h1
      · have := hb.1 z hz; omega
      · exact h1
structure Tr (its : List (It × Value)) (A : List (Int × It)) : Prop where
  up : Up its
  get : ∀ p ∈ its, pget A p.1.id = some p.1
  has : ∀ k it, pget A k = some it → ∃ v, (it, v) ∈ its ∧ it.id = k
theorem Tr.nil : Tr [] [] := ⟨List.Pairwise.nil, by simp, fun k it h => by simp [pget] at h⟩
theorem Tr.put {its : List (It × Value)} {A : List (Int × It)} (h : Tr its A) (it : It) (v : Value) : Tr (putT its (it, v)) (pput A it.id it) := by
  refine ⟨putT_up h.up _, fun p hp => ?_, fun k it2 hk => ?_⟩
  · rw [pget_put]
    rcases (putT_mem h.up).1 hp with rfl | ⟨h1, h2⟩
    · rw [if_pos rfl]
    · rw [if_neg h2]; exact h.get p h1
  · rw [pget_put] at hk
    split at hk
    · cases hk
      rename_i e
      exact ⟨v, (putT_mem h.up).2 (.inl rfl), e.symm⟩
    · rename_i e
      obtain ⟨v2, h1, h2⟩ := h.has k it2 hk; exact ⟨v2, (putT_mem h.up).2 (.inr ⟨h1, by rw [h2]; exact e⟩), h2⟩
theorem Tr.drop {its : List (It × Value)} {A : List (Int × It)} (h : Tr its A) (hn : (A.map Prod.fst).Nodup) (n : Int) : Tr (dropT its n) (pdel A n) := by
  refine ⟨h.up.filter _, fun p hp => ?_, fun k it2 hk => ?_⟩
  · obtain ⟨h1, h2⟩ := dropT_mem.1 hp; rw [pget_del hn, if_neg h2]; exact h.get p h1
  · rw [pget_del hn] at hk
    split at hk
    · cases hk
    · rename_i e
      obtain ⟨v2, h1, h2⟩ := h.has k it2 hk; exact ⟨v2, dropT_mem.2 ⟨h1, by rw [h2]; exact e⟩, h2⟩
theorem Tr.keys {its : List (It × Value)} {A : List (Int × It)} (h : Tr its A) (hn : (A.map Prod.fst).Nodup) : keysUp A = its.map fun p => p.1.id := by
  refine up_eq (keysUp_lt hn) (List.pairwise_map.2 h.up) fun k => ?_
  rw [keysUp_mem]
  constructor
  · intro hk
    cases hp : pget A k with
    | none => exact absurd hk (pget_none.1 hp)
    | some it =>
      obtain ⟨v, h1, h2⟩ := h.has k it hp; exact List.mem_map.2 ⟨_, h1, h2⟩
  · intro hk; obtain ⟨p, hp, rfl⟩ := List.mem_map.1 hk; exact List.mem_map.2 ⟨_, pget_mem (h.get p hp), rfl⟩
theorem Tr.is {its : List (It × Value)} {A : List (Int × It)} (h : Tr its A) (n : Int) : (pget A n).isSome = decide ((dropT its n).length < its.length) := by
  cases hp : pget A n with
  | none =>
    have e : dropT its n = its := List.filter_eq_self.2 fun y hy => by
      rw [decide_eq_true_eq]; intro e; rw [← e, h.get y hy] at hp
      cases hp
    rw [e]
    simp
  | some it =>
    obtain ⟨v, h1, h2⟩ := h.has n it hp
    have : (dropT its n).length < its.length := by
      refine Nat.lt_of_le_of_ne (dropT_len _ _) fun e => ?_
      have h3 := List.filter_eq_self.1 (List.Sublist.eq_of_length List.filter_sublist e) _ h1; rw [decide_eq_true_eq] at h3; exact h3 h2
    simp [this]
theorem Tr.of {its : List (It × Value)} {A B : List (Int × It)} (h : Tr its A) (e : ∀ k, pget B k = pget A k) : Tr its B :=
  ⟨h.up, fun p hp => by rw [e]; exact h.get p hp, fun k it hk => h.has k it (by rw [← e]; exact hk)⟩
theorem absT_some {rows : List TRow} {k : Int} {it : It} (h : pget (absT rows) k = some it) : (pget rows k).isSome = true ∧ ((pget rows k).map Prod.fst).getD zeroIt = it := by
  rw [absT_get] at h
  cases hp : pget rows k with
  | none => rw [hp] at h; cases h
  | some p =>
    rw [hp] at h
    cases h
    exact ⟨rfl, rfl⟩
theorem absT_none {rows : List TRow} {k : Int} (h : pget (absT rows) k = none) : (pget rows k).isSome = false := by
  rw [absT_get] at h
  cases hp : pget rows k with
  | none => rfl
  | some p => rw [hp] at h; cases h
theorem permO {α : Type} {a : α} {X Y Q : List α} : (a :: (X ++ (Y ++ Q))).Perm (Y ++ (a :: (X ++ Q))) := (List.Perm.cons _ permAB).trans List.perm_middle.symm
end Go.Proofs.YtlmmpcdjkpibcaaX
namespace Go.Proofs.YtlmmpcdjkpibcaaX
set_option linter.unusedVariables false
set_option linter.unusedSimpArgs false
open Go Go.RowKit Go.Proofs
def refRow : AV → List Value
  | .num n => [.int .i64 1, .int .i64 n, .string ⟨#[]⟩, .bool false]
  | .txt s => [.int .i64 2, .int .i64 0, .string s, .bool false]
  | .flg t => [.int .i64 3, .int .i64 0, .string ⟨#[]⟩, .bool t]
  | .oth _ => [.int .i64 0, .int .i64 0, .string ⟨#[]⟩, .bool false]
def refKind : AV → Int
  | .num _ => 1
  | .txt _ => 2
  | .flg _ => 3
  | .oth _ => 0
theorem refRow_len (a : AV) : (refRow a).length = 4 := by cases a <;> rfl
theorem refRow_all (a : AV) : (refRow a).all Value.oneCell' = true := by cases a <;> rfl
theorem refRow_0 (a : AV) : (refRow a).toArray[0]? = some (.int .i64 (refKind a)) := by cases a <;> rfl
theorem refKind_1 {a : AV} (h : refKind a = 1) : ∃ n, a = .num n := by cases a <;> first | exact ⟨_, rfl⟩ | (simp [refKind] at h; done)
theorem refKind_2 {a : AV} (h : refKind a = 2) : ∃ n, a = .txt n := by cases a <;> first | exact ⟨_, rfl⟩ | (simp [refKind] at h; done)
theorem refKind_3 {a : AV} (h : refKind a = 3) : ∃ n, a = .flg n := by cases a <;> first | exact ⟨_, rfl⟩ | (simp [refKind] at h; done)
theorem refKind_0 {a : AV} (h1 : refKind a ≠ 1) (h2 : refKind a ≠ 2) (h3 : refKind a ≠ 3) : ∃ v, a = .oth v := by cases a <;> first | exact ⟨_, rfl⟩ | exact absurd rfl h1 | exact absurd rfl h2 | exact absurd rfl h3
abbrev RdV (I : Imm) (v : Value) (av : List AV) : Prop := RdL I 4 v av.length (av.flatMap refRow)
abbrev GrowV (v : Value) (av : List AV) (Lv : Own) : Prop := Grow 129 4 v av.length (av.flatMap refRow) Lv
theorem GrowV.push {v : Value} {av : List AV} {a : AV} {Lv : Own} (h : Grow 129 4 v (av.length + 1) (av.flatMap refRow ++ refRow a) Lv) : GrowV v (av ++ [a]) Lv := by
  unfold GrowV; rw [List.length_append, List.flatMap_append, List.flatMap_cons, List.flatMap_nil, List.append_nil]; exact h
theorem RdV.row {av : List AV} {k : Nat} {a : AV} (ha : av[k]? = some a) : ∀ (j : Nat) (u : Value), (refRow a)[j]? = some u → (av.flatMap refRow)[k * 4 + j]? = some u := by
  intro j u hj
  have h2 : j < 4 := by have := (List.getElem?_eq_some_iff.1 hj).1; rwa [refRow_len] at this
  rw [getElem?_flat refRow_len av k j h2, ha]; exact hj
set_option maxRecDepth 100000 in
set_option maxHeartbeats 1000000 in
theorem refI_spec {w0 w : World} {I : Imm} {L : Own} (hst : St w0 w I L) (n : Int) :
    Calls Try.prog 79 #[.int .i64 n] w fun e w' => e = .returned (.agg (refRow (.num n)).toArray) ∧ St w0 w' I L := by
  refine enter Try.func79 rfl (N := 5) rfl rfl ?_
  simp only [List.zipIdx_cons, List.zipIdx_nil, List.map_cons, List.map_nil, Nat.zero_add, Nat.reduceAdd]
  have hle := Imm.le.refl I; refine CW.seq ?_; refine CW.region ?_; refine RW.opE rfl (runs_alloc ti129 hst) ?_; rintro _ w ⟨b1, rfl, hstn⟩; clear hst; have hst := hstn; clear hstn; refine RW.done ?_; refine AQ.next ?_; refine CW.seq ?_; refine CW.region ?_; refine RW.op1 rfl (runs_move rfl) ?_; refine RW.op1 rfl (runs_buildF (cells := [_, _, _, _]) bz129 rfl rfl rfl rfl rfl) ?_
  refine RW.opE0 (runs_storeW ti129 rfl rfl hst (k := 0) rfl rfl rfl (NoFz.zero _) rfl) ?_
  rintro w hstn; clear hst; have hst := hstn; clear hstn; try simp only [List.set_cons_zero, List.set_cons_succ] at hst
  refine RW.done ?_; refine AQ.next ?_; refine CW.ret ?_; refine AQ.retS rfl rfl (hst.loadN (vs := [_, _, _, _]) (k := 0) ag129 ti129 rfl rfl rfl) ?_; exact ⟨rfl, hst.drop1⟩
set_option maxRecDepth 100000 in
set_option maxHeartbeats 1000000 in
theorem refS_spec {w0 w : World} {I : Imm} {L : Own} (hst : St w0 w I L) (n : ByteArray) :
    Calls Try.prog 80 #[.string n] w fun e w' => e = .returned (.agg (refRow (.txt n)).toArray) ∧ St w0 w' I L := by
  refine enter Try.func80 rfl (N := 5) rfl rfl ?_
  simp only [List.zipIdx_cons, List.zipIdx_nil, List.map_cons, List.map_nil, Nat.zero_add, Nat.reduceAdd]
  have hle := Imm.le.refl I; refine CW.seq ?_; refine CW.region ?_; refine RW.opE rfl (runs_alloc ti129 hst) ?_; rintro _ w ⟨b1, rfl, hstn⟩; clear hst; have hst := hstn; clear hstn; refine RW.done ?_; refine AQ.next ?_; refine CW.seq ?_; refine CW.region ?_; refine RW.op1 rfl (runs_move rfl) ?_; refine RW.op1 rfl (runs_buildF (cells := [_, _, _, _]) bz129 rfl rfl rfl rfl rfl) ?_
  refine RW.opE0 (runs_storeW ti129 rfl rfl hst (k := 0) rfl rfl rfl (NoFz.zero _) rfl) ?_
  rintro w hstn; clear hst; have hst := hstn; clear hstn; try simp only [List.set_cons_zero, List.set_cons_succ] at hst
  refine RW.done ?_; refine AQ.next ?_; refine CW.ret ?_; refine AQ.retS rfl rfl (hst.loadN (vs := [_, _, _, _]) (k := 0) ag129 ti129 rfl rfl rfl) ?_; exact ⟨rfl, hst.drop1⟩
set_option maxRecDepth 100000 in
set_option maxHeartbeats 1000000 in
theorem refB_spec {w0 w : World} {I : Imm} {L : Own} (hst : St w0 w I L) (n : Bool) :
    Calls Try.prog 81 #[.bool n] w fun e w' => e = .returned (.agg (refRow (.flg n)).toArray) ∧ St w0 w' I L := by
  refine enter Try.func81 rfl (N := 5) rfl rfl ?_
  simp only [List.zipIdx_cons, List.zipIdx_nil, List.map_cons, List.map_nil, Nat.zero_add, Nat.reduceAdd]
  have hle := Imm.le.refl I; refine CW.seq ?_; refine CW.region ?_; refine RW.opE rfl (runs_alloc ti129 hst) ?_; rintro _ w ⟨b1, rfl, hstn⟩; clear hst; have hst := hstn; clear hstn; refine RW.done ?_; refine AQ.next ?_; refine CW.seq ?_; refine CW.region ?_; refine RW.op1 rfl (runs_move rfl) ?_; refine RW.op1 rfl (runs_buildF (cells := [_, _, _, _]) bz129 rfl rfl rfl rfl rfl) ?_
  refine RW.opE0 (runs_storeW ti129 rfl rfl hst (k := 0) rfl rfl rfl (NoFz.zero _) rfl) ?_
  rintro w hstn; clear hst; have hst := hstn; clear hstn; try simp only [List.set_cons_zero, List.set_cons_succ] at hst
  refine RW.done ?_; refine AQ.next ?_; refine CW.ret ?_; refine AQ.retS rfl rfl (hst.loadN (vs := [_, _, _, _]) (k := 0) ag129 ti129 rfl rfl rfl) ?_; exact ⟨rfl, hst.drop1⟩
set_option maxRecDepth 100000 in
set_option maxHeartbeats 1000000 in
theorem refenc_spec {w0 w : World} {I : Imm} {L : Own} (hst : St w0 w I L) {v : Value} {av : List AV} {m : Nat} {o : Bool} (hv : RdV I v av) (hgood : ∀ a ∈ av, a.good m o) (hlen : av.length ≤ 100000000) :
    Calls Try.prog 82 #[v] w fun r w' => ∃ I' v', Imm.le I I' ∧ r = .returned (.tuple #[v', .bool (encOk av)]) ∧ St w0 w' I' L ∧ RdB I' v' (if encOk av then encA av else []) := by
  refine enter Try.func82 rfl (N := 63) rfl rfl ?_
  simp only [List.zipIdx_cons, List.zipIdx_nil, List.map_cons, List.map_nil, Nat.zero_add, Nat.reduceAdd]
  have hle := Imm.le.refl I; refine CW.seq ?_; refine CW.region ?_; refine RW.op1 rfl (runs_assign rfl) ?_; refine RW.op1 rfl (runs_assign rfl) ?_; refine RW.done ?_; refine AQ.next ?_; refine CW.seq ?_; refine CW.region ?_; refine RW.op1 rfl (runs_assign rfl) ?_; refine RW.done ?_; refine AQ.next ?_; refine CW.seq ?_; refine CW.seq ?_; refine CW.region ?_; refine RW.op1 rfl (runs_move rfl) ?_; refine RW.op1 rfl (RdL.len Try.underlying132 rfl hv) ?_; refine RW.op1 rfl (runs_move rfl) ?_; refine RW.done ?_; refine AQ.next ?_; refine CW.block ?_; refine CW.loop (Nat × Value × Own × Imm) (fun x w => I.le x.2.2.2 ∧ St w0 w x.2.2.2 (x.2.2.1 ++ L) ∧ GrowB 5 x.2.1 (encA (av.take x.1)) x.2.2.1 ∧ encOk (av.take x.1) = true ∧ x.1 ≤ av.length) (fun x => [(4, x.2.1), (8, v), (9, .int .i64 (av.length : Nat)), (10, .int .i64 (x.1 : Int))]) (fun x => av.length - x.1) ⟨(0, .slice none 0 0, [], I), ⟨Imm.le.refl _, hst, by rw [List.take_zero]; exact GrowB.nil _, rfl, Nat.zero_le _⟩, ⟨rfl, rfl, rfl, rfl, trivial⟩⟩ ?_; rintro ⟨k, vo, Lo, I5⟩ w ⟨hle, hstn, hg, hok, hk0⟩; dsimp only at hle hstn hg hok hk0 ⊢; clear hst; have hst := hstn; clear hstn; refine CW.seq ?_; refine CW.region ?_; refine RW.op1 rfl (runs_lss rfl rfl) ?_; refine RW.done ?_; refine AQ.next ?_; refine CW.seq ?_; refine CW.cond rfl (fun hc11 => ?_) (fun hc11 => ?_)
  · have hcb11 := hc11; try simp only [decide_eq_true_eq, decide_eq_false_iff_not] at hc11
    have hk : k < av.length := by omega
    have hga := hgood _ (List.getElem_mem hk); have hvk := RdL.mono hle hv; have hsz := encA_le hok
    have htk : (av.take k).length ≤ 100000000 := by rw [List.length_take]; omega
    obtain ⟨a, ha⟩ : ∃ a, av[k] = a := ⟨_, rfl⟩; have e1 : av[k] = a := ha
    have hak : av[k]? = some a := by rw [List.getElem?_eq_getElem hk, ha]
    rw [ha] at hga; refine CW.skip ?_; refine AQ.next ?_; refine CW.seq ?_; refine CW.block ?_; refine CW.seq ?_; refine CW.region ?_; refine RW.op1 rfl (RdL.indexAddr Try.underlying132 ti129 (by decide) rfl rfl hvk (by omega)) ?_; refine RW.op1 rfl (RdL.loadRow (row := refRow a) ag129 ti129 rfl hvk hst (refRow_len a) (by intro j u hj; rw [Int.toNat_natCast]; exact RdV.row hak j u hj)) ?_; refine RW.opE rfl (runs_alloc ti129 hst) ?_; rintro _ w ⟨b1, rfl, hstn⟩; clear hst; have hst := hstn; clear hstn; refine RW.opE0 (runs_storeW ti129 rfl rfl hst (k := 0) rfl (refRow_len a) rfl (NoFz.zero _) (refRow_all a)) ?_; rintro w hstn; clear hst; have hst := hstn; clear hstn; try simp only [List.set_cons_zero, List.set_cons_succ] at hst
    refine RW.done ?_; refine AQ.next ?_; refine CW.seq ?_; refine CW.region ?_
    refine RW.op1 rfl (runs_fieldAddr0 rfl Try.underlying129 rfl ti3 (by decide)) ?_
    refine RW.op1 rfl (runs_load1 sc3 rfl (hst.cell_own (v := .int .i64 (refKind a)) (k := 0) rfl (refRow_0 a))) ?_; refine RW.done ?_; refine AQ.next ?_; refine CW.block ?_; refine CW.seq ?_; refine CW.region ?_; refine RW.op1 rfl (runs_eqI rfl rfl) ?_; refine RW.op1 rfl (runs_assign rfl) ?_; refine RW.done ?_; refine AQ.next ?_; refine CW.cond rfl (fun hc16 => ?_) (fun hc16 => ?_)
    · have hcb16 := hc16; try simp only [decide_eq_true_eq, decide_eq_false_iff_not] at hc16
      obtain ⟨n, rfl⟩ := refKind_1 hc16; refine CW.seq ?_; refine CW.region ?_; refine RW.op1 rfl (runs_move rfl) ?_; refine RW.opE rfl (runs_litB (bs := [105]) rfl Try.underlying43 ti5 (by decide) rfl rfl rfl hst) ?_; rintro u3 w ⟨J3, hJ3, hstn, hL19⟩; clear hst; have hst := hstn; clear hstn; replace hle := hle.trans hJ3; refine RW.opE rfl (runs_appendB Try.underlying43 ti5 rfl rfl (hst.perm List.perm_middle.symm) hg hL19 (by simp only [List.length_append, List.length_cons, List.length_nil]; omega)) ?_; rintro u4 w ⟨Lv4, hstn, hG20⟩; clear hst; have hst := hstn; clear hstn; replace hst := hst.perm List.perm_middle; refine RW.op1 rfl (runs_assign rfl) ?_; refine RW.done ?_; refine AQ.next ?_; refine CW.seq ?_; refine CW.region ?_; refine RW.op1 rfl (runs_assign rfl) ?_; refine RW.done ?_; refine AQ.next ?_; refine CW.block ?_; refine CW.loop (Nat × Value × Own × Imm) (fun x w => I.le x.2.2.2 ∧ St w0 w x.2.2.2 ((b1, .cells (refRow (.num n)).toArray 129) :: (x.2.2.1 ++ L)) ∧ GrowB 5 x.2.1 (encA (av.take k) ++ [105] ++ (be8 n).take x.1) x.2.2.1 ∧ x.1 ≤ 8) (fun x => [(6, .pointer (some ⟨b1, 0, none⟩)), (8, v), (9, .int .i64 (av.length : Nat)), (10, .int .i64 (k : Int)), (4, x.2.1), (7, .int .i64 (56 - 8 * (x.1 : Int)))]) (fun x => 8 - x.1) ⟨(0, _, _, _), ⟨hle, hst, by rw [List.take_zero, List.append_nil]; exact hG20, by omega⟩, ⟨rfl, rfl, rfl, rfl, rfl, rfl, trivial⟩⟩ ?_; rintro ⟨j, vi, Li, I6⟩ w ⟨hle, hstn, hg, hj0⟩; dsimp only at hle hstn hg hj0 ⊢; clear hst; have hst := hstn
      clear hstn; refine CW.seq ?_; refine CW.seq ?_; refine CW.region ?_; refine RW.op1 rfl (runs_move rfl) ?_; refine RW.op1 rfl (runs_geq rfl rfl) ?_; refine RW.done ?_; refine AQ.next ?_; refine CW.cond rfl (fun hc22 => ?_) (fun hc22 => ?_)
      · have hcb22 := hc22; try simp only [decide_eq_true_eq, decide_eq_false_iff_not] at hc22
        have hj : j < 8 := by omega
        have hbl : ((be8 n).take j).length ≤ 8 := by rw [List.length_take]; omega
        refine CW.skip ?_; refine AQ.next ?_; refine CW.seq ?_; refine CW.block ?_; refine CW.region ?_; refine RW.op1 rfl (runs_move rfl) ?_
        refine RW.op1 rfl (runs_fieldAddr0 rfl Try.underlying129 rfl ti3 (by decide)) ?_
        refine RW.op1 rfl (runs_load1 sc3 rfl (hst.cell_own (v := .int .i64 n) (k := 0) rfl rfl)) ?_; refine RW.op1 rfl (runs_convI (by rw [Try.underlying3]; rfl) Try.underlying73 rfl) ?_; refine RW.op1 rfl (runs_move rfl) ?_; refine RW.op1 rfl (runs_convI (by rw [Try.underlying3]; rfl) Try.underlying121 rfl) ?_
        have e30 : IntKind.u64.wrap (56 - 8 * (j : Int)) = ((8 * (7 - j) : Nat) : Int) := by rw [IntKind.wrap_u64]; omega
        rw [e30]; refine RW.op1 rfl (runs_shr (n := 8 * (7 - j)) rfl rfl (by show 8 * (7 - j) ≤ 64; omega)) ?_; refine RW.op1 rfl (runs_convB (by rw [Try.underlying73]; rfl) Try.underlying5 rfl) ?_; refine RW.opE rfl (runs_litB (bs := [u8 ((IntKind.u64.wrap n).fdiv (2 ^ (8 * (7 - j))))]) rfl Try.underlying43 ti5 (by decide) rfl rfl rfl hst) ?_; rintro u5 w ⟨J5, hJ5, hstn, hL33⟩; clear hst; have hst := hstn; clear hstn; replace hle := hle.trans hJ5; refine RW.opE rfl (runs_appendB Try.underlying43 ti5 rfl rfl (hst.perm List.perm_middle.symm) hg hL33 (by simp only [List.length_append, List.length_cons, List.length_nil]; omega)) ?_; rintro u6 w ⟨Lv6, hstn, hG34⟩; clear hst; have hst := hstn; clear hstn; replace hst := hst.perm List.perm_middle; refine RW.op1 rfl (runs_assign rfl) ?_; refine RW.done ?_; refine AQ.block_normal ?_; refine AQ.next ?_; refine CW.region ?_; refine RW.op1 rfl (runs_move rfl) ?_; refine RW.op1 rfl (runs_sub rfl rfl (by omega)) ?_; rw [show 56 - 8 * (j : Int) - 8 = 56 - 8 * ((j + 1 : Nat) : Int) by omega]; refine RW.op1 rfl (runs_assign rfl) ?_; refine RW.done ?_; exact AQ.again (x := (j, vi, Li, I6)) (j + 1, _, _, _) ⟨hle, hst, by rw [be8_take n hj, ← List.append_assoc]; exact hG34, by omega⟩ ⟨rfl, rfl, rfl, rfl, rfl, rfl, trivial⟩ (by dsimp only; omega)
      · have hcb22 := hc22; try simp only [decide_eq_true_eq, decide_eq_false_iff_not] at hc22
        skip
        refine CW.exit ?_; refine AQ.past_exit ?_; refine AQ.past_exit ?_; refine AQ.block_hit ?_; refine AQ.block_normal ?_; refine AQ.block_normal ?_; refine AQ.next ?_; refine CW.region ?_; refine RW.op1 rfl (runs_add rfl rfl (by omega)) ?_; refine RW.op1 rfl (runs_move rfl) ?_; refine RW.done ?_; have hb8 : (be8 n).take j = be8 n := List.take_of_length_le (by rw [be8_length]; omega); rw [hb8] at hg; exact AQ.again (x := (k, vo, Lo, I5)) (k + 1, _, _, _) ⟨hle, hst.drop1, by rw [encA_take hk, e1]; simpa [enc1] using hg, encOk_take hk hok (by rw [e1]; rfl), by omega⟩ ⟨rfl, rfl, rfl, rfl, trivial⟩ (by dsimp only; omega)
    · have hcb16 := hc16; try simp only [decide_eq_true_eq, decide_eq_false_iff_not] at hc16
      skip
      refine CW.seq ?_; refine CW.region ?_; refine RW.op1 rfl (runs_eqI rfl rfl) ?_; refine RW.op1 rfl (runs_assign rfl) ?_; refine RW.done ?_; refine AQ.next ?_; refine CW.cond rfl (fun hc35 => ?_) (fun hc35 => ?_)
      · have hcb35 := hc35; try simp only [decide_eq_true_eq, decide_eq_false_iff_not] at hc35
        obtain ⟨b, rfl⟩ := refKind_2 hc35; refine CW.seq ?_; refine CW.seq ?_; refine CW.region ?_
        refine RW.op1 rfl (runs_fieldAddr0 rfl Try.underlying129 rfl ti9 (by decide)) ?_
        refine RW.op1 rfl (runs_load1 sc9 rfl (hst.cell_own (v := .string b) (k := 0) rfl rfl)) ?_; refine RW.op1 rfl (runs_lenS Try.underlying9 rfl) ?_; refine RW.op1 rfl (runs_gtr rfl rfl) ?_; refine RW.done ?_; refine AQ.next ?_; refine CW.cond rfl (fun hc40 => ?_) (fun hc40 => ?_)
        · have hcb40 := hc40; try simp only [decide_eq_true_eq, decide_eq_false_iff_not] at hc40
          skip
          refine CW.seq ?_; refine CW.region ?_; refine RW.op1 rfl (runs_assign rfl) ?_; refine RW.op1 rfl (runs_assign rfl) ?_; refine RW.done ?_; refine AQ.next ?_; refine CW.ret ?_; refine AQ.past_ret ?_; refine AQ.block_ret ?_; refine AQ.block_ret ?_; refine AQ.past_ret ?_; refine AQ.past_ret ?_; refine AQ.block_ret ?_; refine AQ.past_ret ?_; refine AQ.ret2 rfl rfl rfl ?_; rw [encOk_no hk (by rw [e1]; simp [enc1Ok]; omega)]; exact ⟨_, _, hle, rfl, (hst.drop1).sub (List.sublist_append_right _ _), RdL.nil 1⟩
        · have hcb40 := hc40; try simp only [decide_eq_true_eq, decide_eq_false_iff_not] at hc40
          have hbl := size_toList b; refine CW.skip ?_; refine AQ.next ?_; refine CW.draw (FSt w0 I5 ((b1, .cells (refRow (.txt b)).toArray 129) :: L)) (.q 0 (.q 1 (.q 2 (.q 3 (.q 4 (.q 7 (.q 8 (.l 5 (.l 6 (.l 9 (.q 10 .nil))))))))))) follows (by kernel_rfl) ⟨_, Imm.le.refl _, hst.draw.sub ((List.sublist_append_right _ _).cons_cons _)⟩ ?_; replace hst := hst.draw; refine DRW.q rfl rfl (fun w' hF => runs_move rfl) ?_
          refine DRW.q rfl rfl (fun w' hF => runs_fieldAddr0 rfl Try.underlying129 rfl ti9 (by decide)) ?_
          refine DRW.q rfl rfl (FSt.load1_own (v := .string b) sc9 rfl (k := 0) rfl rfl) ?_; refine DRW.q rfl rfl (fun w' hF => runs_lenS Try.underlying9 rfl) ?_; refine DRW.q rfl rfl (fun w' hF => runs_convB (by rw [Try.underlying3]; rfl) Try.underlying5 rfl) ?_
          refine DRW.q rfl rfl (fun w' hF => runs_fieldAddr0 rfl Try.underlying129 rfl ti9 (by decide)) ?_
          refine DRW.q rfl rfl (FSt.load1_own (v := .string b) sc9 rfl (k := 0) rfl rfl) ?_; refine DRW.opE rfl rfl (runs_litB (bs := [115, _]) rfl Try.underlying43 ti5 (by decide) rfl rfl rfl hst) ?_; rintro u7 w ⟨I7, hI7, hstn, h7⟩; clear hst; have hst := hstn; clear hstn; replace hle := hle.trans hI7; refine ⟨FSt.of hst hI7 (by first | exact ((List.sublist_append_right _ _).cons_cons _) | exact List.sublist_append_right _ _), ?_⟩; refine DRW.opE rfl rfl (runs_appendB Try.underlying43 ti5 rfl rfl (hst.perm List.perm_middle.symm) hg (by assumption) (by simp only [List.length_append, List.length_cons, List.length_nil]; omega)) ?_; rintro u8 w ⟨Lv8, hstn, hG47⟩; clear hst; have hst := hstn; clear hstn; refine ⟨FSt.of hst hI7 (by first | exact ((List.sublist_append_right _ _).cons_cons _) | exact List.sublist_append_right _ _), ?_⟩; replace hst := hst.perm List.perm_middle; refine DRW.opE rfl rfl (runs_appendS Try.underlying43 ti5 Try.underlying9 rfl rfl (hst.perm List.perm_middle.symm) hG47 (by simp only [List.length_append, List.length_cons, List.length_nil]; omega)) ?_; rintro u9 w ⟨Lv9, hstn, hG50⟩; clear hst; have hst := hstn; clear hstn; refine ⟨FSt.of hst hI7 (by first | exact ((List.sublist_append_right _ _).cons_cons _) | exact List.sublist_append_right _ _), ?_⟩; replace hst := hst.perm List.perm_middle; refine DRW.q rfl rfl (fun w' hF => runs_assign rfl) ?_; refine DRW.done ?_; refine AQ.block_normal ?_; refine AQ.block_normal ?_; refine AQ.next ?_
          refine CW.region ?_; refine RW.op1 rfl (runs_add rfl rfl (by omega)) ?_; refine RW.op1 rfl (runs_move rfl) ?_; refine RW.done ?_
          skip
          exact AQ.again (x := (k, vo, Lo, I5)) (k + 1, _, _, _) ⟨hle, hst.drop1, by rw [encA_take hk, e1]; simpa [enc1] using hG50, encOk_take hk hok (by rw [e1]; simp [enc1Ok]; omega), by omega⟩ ⟨rfl, rfl, rfl, rfl, trivial⟩ (by dsimp only; omega)
      · have hcb35 := hc35; try simp only [decide_eq_true_eq, decide_eq_false_iff_not] at hc35
        skip
        refine CW.seq ?_; refine CW.region ?_; refine RW.op1 rfl (runs_eqI rfl rfl) ?_; refine RW.op1 rfl (runs_assign rfl) ?_; refine RW.done ?_; refine AQ.next ?_; refine CW.cond rfl (fun hc51 => ?_) (fun hc51 => ?_)
        · have hcb51 := hc51; try simp only [decide_eq_true_eq, decide_eq_false_iff_not] at hc51
          obtain ⟨t, rfl⟩ := refKind_3 hc51; refine CW.seq ?_; refine CW.region ?_
          refine RW.op1 rfl (runs_fieldAddr0 rfl Try.underlying129 rfl ti4 (by decide)) ?_
          refine RW.op1 rfl (runs_load1 sc4 rfl (hst.cell_own (v := .bool t) (k := 0) rfl rfl)) ?_; refine RW.done ?_; refine AQ.next ?_; refine CW.cond rfl (fun hc54 => ?_) (fun hc54 => ?_)
          · have hcb54 := hc54; try simp only [decide_eq_true_eq, decide_eq_false_iff_not] at hc54
            refine CW.region ?_; refine RW.op1 rfl (runs_move rfl) ?_; refine RW.opE rfl (runs_litB (bs := [116]) rfl Try.underlying43 ti5 (by decide) rfl rfl rfl hst) ?_; rintro u10 w ⟨J10, hJ10, hstn, hL56⟩; clear hst; have hst := hstn; clear hstn; replace hle := hle.trans hJ10; refine RW.opE rfl (runs_appendB Try.underlying43 ti5 rfl rfl (hst.perm List.perm_middle.symm) hg hL56 (by simp only [List.length_append, List.length_cons, List.length_nil]; omega)) ?_; rintro u11 w ⟨Lv11, hstn, hG57⟩; clear hst; have hst := hstn; clear hstn; replace hst := hst.perm List.perm_middle; refine RW.op1 rfl (runs_assign rfl) ?_; refine RW.done ?_; refine AQ.block_normal ?_; refine AQ.block_normal ?_; refine AQ.next ?_; refine CW.region ?_; refine RW.op1 rfl (runs_add rfl rfl (by omega)) ?_; refine RW.op1 rfl (runs_move rfl) ?_; refine RW.done ?_; subst hcb54; exact AQ.again (x := (k, vo, Lo, I5)) (k + 1, _, _, _) ⟨hle, hst.drop1, by rw [encA_take hk, e1]; simpa [enc1] using hG57, encOk_take hk hok (by rw [e1]; rfl), by omega⟩ ⟨rfl, rfl, rfl, rfl, trivial⟩ (by dsimp only; omega)
          · have hcb54 := hc54; try simp only [decide_eq_true_eq, decide_eq_false_iff_not] at hc54
            refine CW.region ?_; refine RW.op1 rfl (runs_move rfl) ?_; refine RW.opE rfl (runs_litB (bs := [102]) rfl Try.underlying43 ti5 (by decide) rfl rfl rfl hst) ?_; rintro u12 w ⟨J12, hJ12, hstn, hL59⟩; clear hst; have hst := hstn; clear hstn; replace hle := hle.trans hJ12; refine RW.opE rfl (runs_appendB Try.underlying43 ti5 rfl rfl (hst.perm List.perm_middle.symm) hg hL59 (by simp only [List.length_append, List.length_cons, List.length_nil]; omega)) ?_; rintro u13 w ⟨Lv13, hstn, hG60⟩; clear hst; have hst := hstn; clear hstn; replace hst := hst.perm List.perm_middle; refine RW.op1 rfl (runs_assign rfl) ?_; refine RW.done ?_; refine AQ.block_normal ?_; refine AQ.block_normal ?_; refine AQ.next ?_; refine CW.region ?_; refine RW.op1 rfl (runs_add rfl rfl (by omega)) ?_; refine RW.op1 rfl (runs_move rfl) ?_; refine RW.done ?_; subst hcb54; exact AQ.again (x := (k, vo, Lo, I5)) (k + 1, _, _, _) ⟨hle, hst.drop1, by rw [encA_take hk, e1]; simpa [enc1] using hG60, encOk_take hk hok (by rw [e1]; rfl), by omega⟩ ⟨rfl, rfl, rfl, rfl, trivial⟩ (by dsimp only; omega)
        · have hcb51 := hc51; try simp only [decide_eq_true_eq, decide_eq_false_iff_not] at hc51
          obtain ⟨u, rfl⟩ := refKind_0 hc16 hc35 hc51; refine CW.seq ?_; refine CW.region ?_; refine RW.op1 rfl (runs_assign rfl) ?_; refine RW.op1 rfl (runs_assign rfl) ?_; refine RW.done ?_; refine AQ.next ?_; refine CW.ret ?_; refine AQ.block_ret ?_; refine AQ.block_ret ?_; refine AQ.past_ret ?_; refine AQ.past_ret ?_; refine AQ.block_ret ?_; refine AQ.past_ret ?_; refine AQ.ret2 rfl rfl rfl ?_; rw [encOk_no hk (by rw [e1]; rfl)]; exact ⟨_, _, hle, rfl, (hst.drop1).sub (List.sublist_append_right _ _), RdL.nil 1⟩
  · have hcb11 := hc11; try simp only [decide_eq_true_eq, decide_eq_false_iff_not] at hc11
    skip
    refine CW.exit ?_; refine AQ.past_exit ?_; refine AQ.past_exit ?_; refine AQ.block_hit ?_; refine AQ.next ?_; refine CW.seq ?_; refine CW.region ?_; refine RW.op1 rfl (runs_move rfl) ?_; refine RW.op1 rfl (runs_assign rfl) ?_; refine RW.op1 rfl (runs_assign rfl) ?_; refine RW.done ?_; refine AQ.next ?_; refine CW.ret ?_; refine AQ.ret2 rfl rfl rfl ?_; have hkl : av.take k = av := List.take_of_length_le (by omega); rw [hkl] at hok hg; rw [hok]; obtain ⟨I', hI, hst, hr⟩ := GrowB.freeze hg hst; exact ⟨I', _, hle.trans hI, rfl, hst, hr⟩
set_option maxRecDepth 100000 in
set_option maxHeartbeats 4000000 in
theorem rbytes17_spec {w0 w : World} {I : Imm} {L : Own} (hst : St w0 w I L) {it : It} {vh : Value} (hv : RdH I vh it.heads) (hok : ItOk it) (hlen : it.heads.length ≤ 1000) :
    Calls Try.prog 70 #[itv it vh] w fun e w' => ∃ I' v', I.le I' ∧ e = .returned (.tuple #[v', .bool (encOk (itAV it))]) ∧ St w0 w' I' L ∧ RdB I' v' (if encOk (itAV it) then encA (itAV it) else []) := by
  obtain ⟨m, hgood⟩ := itAV_good hok
  obtain ⟨A, c, rfl⟩ : ∃ A c, vh = .slice A it.heads.length c := by obtain ⟨_, _, A, c, e, _⟩ := hv; exact ⟨A, c, e⟩
  refine enter Try.func70 rfl (N := 124) rfl rfl ?_
  simp only [List.zipIdx_cons, List.zipIdx_nil, List.map_cons, List.map_nil, Nat.zero_add, Nat.reduceAdd]
  have hle := Imm.le.refl I; refine CW.seq ?_; refine CW.region ?_; refine RW.opE rfl (runs_box rfl hst) ?_; rintro _ w ⟨b1, rfl, hstn⟩; clear hst; have hst := hstn; clear hstn; refine RW.op1 rfl (runs_assign rfl) ?_; refine RW.op1 rfl (runs_assign rfl) ?_; refine RW.done ?_; refine AQ.next ?_; refine CW.seq ?_; refine CW.drawSt hst (.q 0 (.q 1 (.q 3 (.q 4 (.q 6 (.q 7 (.q 9 (.q 10 (.q 12 (.q 13 (.q 14 (.q 16 (.q 17 (.q 18 (.q 20 (.q 21 (.q 22 (.q 23 (.l 2 (.l 5 (.l 8 (.l 11 (.l 15 (.l 19 (.l 24 (.l 25 (.q 26 .nil))))))))))))))))))))))))))) follows (by kernel_rfl) (fun w hst => ?_)
  refine DRW.q rfl rfl (fun w' hF => runs_fieldAddr0 rfl Try.underlying36 rfl ti3 (by decide)) ?_
  refine DRW.q rfl rfl (FSt.load1_own sc3 rfl (k := 0) rfl rfl) ?_
  refine DRW.q rfl rfl (fun w' hF => runs_fieldAddr0 rfl Try.underlying36 rfl ti3 (by decide)) ?_
  refine DRW.q rfl rfl (FSt.load1_own sc3 rfl (k := 0) rfl rfl) ?_
  refine DRW.q rfl rfl (fun w' hF => runs_fieldAddr0 rfl Try.underlying36 rfl ti3 (by decide)) ?_
  refine DRW.q rfl rfl (FSt.load1_own sc3 rfl (k := 0) rfl rfl) ?_
  refine DRW.q rfl rfl (fun w' hF => runs_fieldAddr0 rfl Try.underlying36 rfl ti9 (by decide)) ?_
  refine DRW.q rfl rfl (FSt.load1_own sc9 rfl (k := 0) rfl rfl) ?_
  refine DRW.q rfl rfl (fun w' hF => runs_fieldAddr0 rfl Try.underlying36 rfl ti32 (by decide)) ?_
  refine DRW.q rfl rfl (fun w' hF => runs_fieldAddr0 rfl Try.underlying32 rfl ti9 (by decide)) ?_
  refine DRW.q rfl rfl (FSt.load1_own sc9 rfl (k := 0) rfl rfl) ?_
  refine DRW.q rfl rfl (fun w' hF => runs_fieldAddr0 rfl Try.underlying36 rfl ti32 (by decide)) ?_
  refine DRW.q rfl rfl (fun w' hF => runs_fieldAddr0 rfl Try.underlying32 rfl ti9 (by decide)) ?_
  refine DRW.q rfl rfl (FSt.load1_own sc9 rfl (k := 0) rfl rfl) ?_
  refine DRW.q rfl rfl (fun w' hF => runs_fieldAddr0 rfl Try.underlying36 rfl ti32 (by decide)) ?_
  refine DRW.q rfl rfl (fun w' hF => runs_fieldAddr0 rfl Try.underlying32 rfl ti30 (by decide)) ?_
  refine DRW.q rfl rfl (FSt.load1_own sc30 rfl (k := 0) rfl rfl) ?_
  refine DRW.q rfl rfl (fun w' hF => runs_lenL Try.underlying30 rfl) ?_; refine DRW.call rfl rfl call79 rfl rfl (refI_spec hst _) ?_; rintro e w ⟨rfl, hstn⟩; clear hst; have hst := hstn; clear hstn; refine ⟨_, rfl, FSt.ofA hst (Imm.le.refl _), ?_⟩; refine DRW.call rfl rfl call79 rfl rfl (refI_spec hst _) ?_; rintro e w ⟨rfl, hstn⟩; clear hst; have hst := hstn; clear hstn; refine ⟨_, rfl, FSt.ofA hst (Imm.le.refl _), ?_⟩; refine DRW.call rfl rfl call79 rfl rfl (refI_spec hst _) ?_; rintro e w ⟨rfl, hstn⟩; clear hst; have hst := hstn; clear hstn; refine ⟨_, rfl, FSt.ofA hst (Imm.le.refl _), ?_⟩; refine DRW.call rfl rfl call80 rfl rfl (refS_spec hst _) ?_; rintro e w ⟨rfl, hstn⟩; clear hst; have hst := hstn; clear hstn; refine ⟨_, rfl, FSt.ofA hst (Imm.le.refl _), ?_⟩; refine DRW.call rfl rfl call80 rfl rfl (refS_spec hst _) ?_; rintro e w ⟨rfl, hstn⟩; clear hst; have hst := hstn; clear hstn; refine ⟨_, rfl, FSt.ofA hst (Imm.le.refl _), ?_⟩; refine DRW.call rfl rfl call80 rfl rfl (refS_spec hst _) ?_; rintro e w ⟨rfl, hstn⟩; clear hst; have hst := hstn; clear hstn; refine ⟨_, rfl, FSt.ofA hst (Imm.le.refl _), ?_⟩; refine DRW.call rfl rfl call79 rfl rfl (refI_spec hst _) ?_; rintro e w ⟨rfl, hstn⟩; clear hst; have hst := hstn; clear hstn; refine ⟨_, rfl, FSt.ofA hst (Imm.le.refl _), ?_⟩
  refine DRW.opE rfl rfl (runs_litF (xs := [.agg #[_, _, _, _], .agg #[_, _, _, _], .agg #[_, _, _, _], .agg #[_, _, _, _], .agg #[_, _, _, _], .agg #[_, _, _, _], .agg #[_, _, _, _]]) Try.underlying132 ti129 (by decide) rfl rfl rfl rfl rfl hst (by decide)) ?_; rintro u9 w ⟨Lv9, hstn, hg9⟩; clear hst; have hst := hstn; clear hstn; refine ⟨FSt.ofA hst (Imm.le.refl _), ?_⟩; replace hst := hst.perm (List.perm_middle (l₁ := Lv9)); have hg35 : GrowV u9 (headAV it) Lv9 := hg9; refine DRW.q rfl rfl (fun w' hF => runs_assign rfl) ?_; refine DRW.done ?_; refine AQ.next ?_; refine CW.seq ?_; refine CW.seq ?_; refine CW.region ?_
  refine RW.op1 rfl (runs_fieldAddr0 rfl Try.underlying36 rfl ti32 (by decide)) ?_
  refine RW.op1 rfl (runs_fieldAddr0 rfl Try.underlying32 rfl ti30 (by decide)) ?_
  refine RW.op1 rfl (runs_load1 sc30 rfl (hst.cell_own (k := 0) rfl rfl)) ?_
  refine RW.op1 rfl (runs_lenL Try.underlying30 rfl) ?_; refine RW.op1 rfl (runs_move rfl) ?_; refine RW.done ?_; refine AQ.next ?_; refine CW.block ?_; refine CW.loop (Nat × Imm × Value × Own) (fun x w => I.le x.2.1 ∧ RdH x.2.1 (.slice A it.heads.length c) it.heads ∧ St w0 w x.2.1 ((b1, Obj.cells #[.int .i64 it.id, .int .i64 it.kind, .int .i64 it.group, .string it.name, .string it.method, .string it.url, .slice A it.heads.length c, .string it.body, .int .i64 it.mode, .int .i64 it.creds, .string it.page, .string it.csp, .int .i64 it.refer, .string it.nurl, .string it.nmethod, .string it.nbody, .int .i64 it.hops, .int .i64 it.tries, .int .i64 it.til, .bool it.tainted, .string it.got, .string it.tag, .int .i64 it.state, .int .i64 it.code, .bool it.acked] 36) :: (x.2.2.2 ++ L)) ∧ GrowV x.2.2.1 (headAV it ++ hAV (it.heads.take x.1)) x.2.2.2 ∧ x.1 ≤ it.heads.length) (fun x => [(1, .pointer (some ⟨b1, 0, none⟩)), (4, x.2.2.1), (35, .slice A it.heads.length c), (36, .int .i64 (it.heads.length : Nat)), (37, .int .i64 (x.1 : Int))]) (fun x => it.heads.length - x.1) ⟨(0, _, _, _), ⟨hle, hv, hst, hg35, Nat.zero_le _⟩, ⟨rfl, rfl, rfl, rfl, rfl, trivial⟩⟩ ?_; clear hle hv hst; rintro ⟨k, J, vo, Lo⟩ w ⟨hle, hv, hst, hg, hk⟩; dsimp only at hle hv hst hg hk ⊢; refine CW.seq ?_; refine CW.region ?_; refine RW.op1 rfl (runs_lss rfl rfl) ?_; refine RW.done ?_; refine AQ.next ?_; refine CW.seq ?_; refine CW.cond rfl (fun hc38 => ?_) (fun hc38 => ?_)
  · have hcb38 := hc38; try simp only [decide_eq_true_eq, decide_eq_false_iff_not] at hc38
    have hk1 : k < it.heads.length := by omega
    obtain ⟨⟨n, d⟩, hr⟩ : ∃ r, it.heads[k] = r := ⟨_, rfl⟩
    have hr2 : it.heads[k]? = some (n, d) := by rw [List.getElem?_eq_getElem hk1, hr]
    have htk : hAV (it.heads.take (k + 1)) = hAV (it.heads.take k) ++ [.txt n, .txt d] := by
      unfold hAV; rw [List.take_add_one, hr2, List.flatMap_append]
      rfl
    have hgl : (headAV it ++ hAV (it.heads.take k)).length = 7 + k * 2 := by rw [List.length_append, hAV_len, List.length_take, Nat.min_eq_left (by omega)]; rfl
    refine CW.skip ?_; refine AQ.next ?_; refine CW.seq ?_; refine CW.block ?_; refine CW.seq ?_; refine CW.region ?_; refine RW.op1 rfl (RdL.indexAddr Try.underlying30 ti54 (by decide) rfl rfl hv (by omega)) ?_; refine RW.op1 rfl (RdL.loadRow (row := hrow (n, d)) ag54 ti54 rfl hv hst rfl (hrow_at hr2)) ?_; refine RW.opE rfl (runs_alloc ti54 hst) ?_; rintro _ w ⟨b10, rfl, hstn⟩; clear hst; have hst := hstn; clear hstn; obtain ⟨bh, hbh⟩ : ∃ b, b = b10 := ⟨_, rfl⟩; subst hbh
    refine RW.opE0 (runs_storeW ti54 rfl rfl hst (k := 0) rfl rfl rfl (NoFz.zero _) rfl) ?_
    rintro w hstn; clear hst; have hst := hstn; clear hstn; try simp only [List.set_cons_zero, List.set_cons_succ] at hst
    refine RW.done ?_; refine AQ.next ?_; refine CW.draw (FSt w0 J ((bh, .cells #[.string n, .string d] 54) :: (b1, Obj.cells #[.int .i64 it.id, .int .i64 it.kind, .int .i64 it.group, .string it.name, .string it.method, .string it.url, .slice A it.heads.length c, .string it.body, .int .i64 it.mode, .int .i64 it.creds, .string it.page, .string it.csp, .int .i64 it.refer, .string it.nurl, .string it.nmethod, .string it.nbody, .int .i64 it.hops, .int .i64 it.tries, .int .i64 it.til, .bool it.tainted, .string it.got, .string it.tag, .int .i64 it.state, .int .i64 it.code, .bool it.acked] 36) :: L)) (.q 0 (.q 1 (.q 2 (.q 4 (.q 5 (.l 3 (.l 6 (.l 7 (.l 8 (.q 9 .nil)))))))))) follows (by kernel_rfl) ⟨_, Imm.le.refl _, hst.draw.sub (((List.sublist_append_right _ _).cons_cons _).cons_cons _)⟩ ?_; replace hst := hst.draw; refine DRW.q rfl rfl (fun w' hF => runs_move rfl) ?_
    refine DRW.q rfl rfl (fun w' hF => runs_fieldAddr0 rfl Try.underlying54 rfl ti9 (by decide)) ?_
    refine DRW.q rfl rfl (FSt.load1_own sc9 rfl (k := 0) rfl rfl) ?_
    refine DRW.q rfl rfl (fun w' hF => runs_fieldAddr0 rfl Try.underlying54 rfl ti9 (by decide)) ?_
    refine DRW.q rfl rfl (FSt.load1_own sc9 rfl (k := 0) rfl rfl) ?_
    refine DRW.call rfl rfl call80 rfl rfl (refS_spec hst _) ?_; rintro e w ⟨rfl, hstn⟩; clear hst; have hst := hstn; clear hstn; refine ⟨_, rfl, FSt.of hst (Imm.le.refl _) (by first | exact (((List.sublist_append_right _ _).cons_cons _).cons_cons _) | exact ((((List.sublist_append_right _ _).cons_cons _).cons_cons _).trans (List.sublist_append_right _ _))), ?_⟩; refine DRW.call rfl rfl call80 rfl rfl (refS_spec hst _) ?_; rintro e w ⟨rfl, hstn⟩; clear hst; have hst := hstn; clear hstn; refine ⟨_, rfl, FSt.of hst (Imm.le.refl _) (by first | exact (((List.sublist_append_right _ _).cons_cons _).cons_cons _) | exact ((((List.sublist_append_right _ _).cons_cons _).cons_cons _).trans (List.sublist_append_right _ _))), ?_⟩; refine DRW.opE rfl rfl (runs_litF (xs := [.agg #[_, _, _, _], .agg #[_, _, _, _]]) Try.underlying132 ti129 (by decide) rfl rfl rfl rfl rfl hst (by decide)) ?_; rintro u14 w ⟨Lv14, hstn, hg14⟩; clear hst; have hst := hstn; clear hstn; refine ⟨FSt.of hst (Imm.le.refl _) (by first | exact (((List.sublist_append_right _ _).cons_cons _).cons_cons _) | exact ((((List.sublist_append_right _ _).cons_cons _).cons_cons _).trans (List.sublist_append_right _ _))), ?_⟩; obtain ⟨J14, hJ14, hstn, h14⟩ := Grow.freeze hg14 hst; clear hst; have hst := hstn; clear hstn; replace hv := hv.mono hJ14; replace hle := hle.trans hJ14; try simp only [List.nil_append] at h14
    replace h14 : RdL J14 4 u14 2 ([AV.txt n, AV.txt d].flatMap refRow) := h14; have hT := h14; refine DRW.opE rfl rfl (runs_appendRA [_, _] Try.underlying132 ti129 rfl (by decide) rfl rfl hst hg hT (by omega) (by unfold maxLen; omega)) ?_; rintro uN w ⟨LvN, hstn, hgN⟩; clear hst; have hst := hstn; clear hstn; refine ⟨FSt.of hst hJ14 (by first | exact (((List.sublist_append_right _ _).cons_cons _).cons_cons _) | exact ((((List.sublist_append_right _ _).cons_cons _).cons_cons _).trans (List.sublist_append_right _ _))), ?_⟩; refine DRW.q rfl rfl (fun w' hF => runs_assign rfl) ?_; refine DRW.done ?_; refine AQ.block_normal ?_; refine AQ.next ?_; refine CW.region ?_; refine RW.op1 rfl (runs_add rfl rfl (by omega)) ?_; refine RW.op1 rfl (runs_move rfl) ?_; refine RW.done ?_
    exact AQ.again (x := (k, J, vo, Lo)) (k + 1, _, uN, LvN) ⟨hle, hv, hst.drop1, by
      dsimp only; unfold GrowV; rw [htk, ← List.append_assoc, List.length_append, List.flatMap_append]
      exact hgN, by dsimp only; omega⟩ ⟨rfl, rfl, rfl, rfl, rfl, trivial⟩ (by dsimp only; omega)
  · have hcb38 := hc38; try simp only [decide_eq_true_eq, decide_eq_false_iff_not] at hc38
    skip
    refine CW.exit ?_; refine AQ.past_exit ?_; refine AQ.past_exit ?_; refine AQ.block_hit ?_; refine AQ.next ?_; refine CW.seq ?_; have hke : it.heads.take k = it.heads := List.take_of_length_le (by omega); rw [hke] at hg
    have hgl : (headAV it ++ hAV it.heads).length = 7 + it.heads.length * 2 := by rw [List.length_append, hAV_len]; rfl
    refine CW.draw (FSt w0 _ ((b1, Obj.cells #[.int .i64 it.id, .int .i64 it.kind, .int .i64 it.group, .string it.name, .string it.method, .string it.url, .slice A it.heads.length c, .string it.body, .int .i64 it.mode, .int .i64 it.creds, .string it.page, .string it.csp, .int .i64 it.refer, .string it.nurl, .string it.nmethod, .string it.nbody, .int .i64 it.hops, .int .i64 it.tries, .int .i64 it.til, .bool it.tainted, .string it.got, .string it.tag, .int .i64 it.state, .int .i64 it.code, .bool it.acked] 36) :: L)) (.q 0 (.q 1 (.q 2 (.q 3 (.q 5 (.q 6 (.q 7 (.q 9 (.q 10 (.q 11 (.q 13 (.q 14 (.q 15 (.q 17 (.q 18 (.q 19 (.q 21 (.q 22 (.q 23 (.l 4 (.l 8 (.l 12 (.l 16 (.l 20 (.l 24 (.l 25 (.l 26 (.q 27 .nil)))))))))))))))))))))))))))) follows (by kernel_rfl) ⟨_, Imm.le.refl _, hst.draw.sub ((List.sublist_append_right _ _).cons_cons _)⟩ ?_; replace hst := hst.draw; refine DRW.q rfl rfl (fun w' hF => runs_move rfl) ?_
    refine DRW.q rfl rfl (fun w' hF => runs_fieldAddr0 rfl Try.underlying36 rfl ti32 (by decide)) ?_
    refine DRW.q rfl rfl (fun w' hF => runs_fieldAddr0 rfl Try.underlying32 rfl ti9 (by decide)) ?_
    refine DRW.q rfl rfl (FSt.load1_own sc9 rfl (k := 0) rfl rfl) ?_
    refine DRW.q rfl rfl (fun w' hF => runs_fieldAddr0 rfl Try.underlying36 rfl ti32 (by decide)) ?_
    refine DRW.q rfl rfl (fun w' hF => runs_fieldAddr0 rfl Try.underlying32 rfl ti3 (by decide)) ?_
    refine DRW.q rfl rfl (FSt.load1_own sc3 rfl (k := 0) rfl rfl) ?_
    refine DRW.q rfl rfl (fun w' hF => runs_fieldAddr0 rfl Try.underlying36 rfl ti32 (by decide)) ?_
    refine DRW.q rfl rfl (fun w' hF => runs_fieldAddr0 rfl Try.underlying32 rfl ti3 (by decide)) ?_
    refine DRW.q rfl rfl (FSt.load1_own sc3 rfl (k := 0) rfl rfl) ?_
    refine DRW.q rfl rfl (fun w' hF => runs_fieldAddr0 rfl Try.underlying36 rfl ti34 (by decide)) ?_
    refine DRW.q rfl rfl (fun w' hF => runs_fieldAddr0 rfl Try.underlying34 rfl ti9 (by decide)) ?_
    refine DRW.q rfl rfl (FSt.load1_own sc9 rfl (k := 0) rfl rfl) ?_
    refine DRW.q rfl rfl (fun w' hF => runs_fieldAddr0 rfl Try.underlying36 rfl ti34 (by decide)) ?_
    refine DRW.q rfl rfl (fun w' hF => runs_fieldAddr0 rfl Try.underlying34 rfl ti9 (by decide)) ?_
    refine DRW.q rfl rfl (FSt.load1_own sc9 rfl (k := 0) rfl rfl) ?_
    refine DRW.q rfl rfl (fun w' hF => runs_fieldAddr0 rfl Try.underlying36 rfl ti34 (by decide)) ?_
    refine DRW.q rfl rfl (fun w' hF => runs_fieldAddr0 rfl Try.underlying34 rfl ti3 (by decide)) ?_
    refine DRW.q rfl rfl (FSt.load1_own sc3 rfl (k := 0) rfl rfl) ?_
    refine DRW.call rfl rfl call80 rfl rfl (refS_spec hst _) ?_; rintro e w ⟨rfl, hstn⟩; clear hst; have hst := hstn; clear hstn; refine ⟨_, rfl, FSt.of hst (Imm.le.refl _) (by first | exact ((List.sublist_append_right _ _).cons_cons _) | exact (((List.sublist_append_right _ _).cons_cons _).trans (List.sublist_append_right _ _))), ?_⟩; refine DRW.call rfl rfl call79 rfl rfl (refI_spec hst _) ?_; rintro e w ⟨rfl, hstn⟩; clear hst; have hst := hstn; clear hstn; refine ⟨_, rfl, FSt.of hst (Imm.le.refl _) (by first | exact ((List.sublist_append_right _ _).cons_cons _) | exact (((List.sublist_append_right _ _).cons_cons _).trans (List.sublist_append_right _ _))), ?_⟩; refine DRW.call rfl rfl call79 rfl rfl (refI_spec hst _) ?_; rintro e w ⟨rfl, hstn⟩; clear hst; have hst := hstn; clear hstn; refine ⟨_, rfl, FSt.of hst (Imm.le.refl _) (by first | exact ((List.sublist_append_right _ _).cons_cons _) | exact (((List.sublist_append_right _ _).cons_cons _).trans (List.sublist_append_right _ _))), ?_⟩; refine DRW.call rfl rfl call80 rfl rfl (refS_spec hst _) ?_; rintro e w ⟨rfl, hstn⟩; clear hst; have hst := hstn; clear hstn; refine ⟨_, rfl, FSt.of hst (Imm.le.refl _) (by first | exact ((List.sublist_append_right _ _).cons_cons _) | exact (((List.sublist_append_right _ _).cons_cons _).trans (List.sublist_append_right _ _))), ?_⟩; refine DRW.call rfl rfl call80 rfl rfl (refS_spec hst _) ?_; rintro e w ⟨rfl, hstn⟩; clear hst; have hst := hstn; clear hstn
    refine ⟨_, rfl, FSt.of hst (Imm.le.refl _) (by first | exact ((List.sublist_append_right _ _).cons_cons _) | exact (((List.sublist_append_right _ _).cons_cons _).trans (List.sublist_append_right _ _))), ?_⟩; refine DRW.call rfl rfl call79 rfl rfl (refI_spec hst _) ?_; rintro e w ⟨rfl, hstn⟩; clear hst; have hst := hstn; clear hstn; refine ⟨_, rfl, FSt.of hst (Imm.le.refl _) (by first | exact ((List.sublist_append_right _ _).cons_cons _) | exact (((List.sublist_append_right _ _).cons_cons _).trans (List.sublist_append_right _ _))), ?_⟩; refine DRW.opE rfl rfl (runs_litF (xs := [.agg #[_, _, _, _], .agg #[_, _, _, _], .agg #[_, _, _, _], .agg #[_, _, _, _], .agg #[_, _, _, _], .agg #[_, _, _, _]]) Try.underlying132 ti129 (by decide) rfl rfl rfl rfl rfl hst (by decide)) ?_; rintro u22 w ⟨Lv22, hstn, hg22⟩; clear hst; have hst := hstn; clear hstn; refine ⟨FSt.of hst (Imm.le.refl _) (by first | exact ((List.sublist_append_right _ _).cons_cons _) | exact (((List.sublist_append_right _ _).cons_cons _).trans (List.sublist_append_right _ _))), ?_⟩; obtain ⟨J22, hJ22, hstn, h22⟩ := Grow.freeze hg22 hst; clear hst; have hst := hstn; clear hstn; replace hv := hv.mono hJ22; replace hle := hle.trans hJ22; try simp only [List.nil_append] at h22
    replace h22 : RdL J22 4 u22 6 (([AV.txt it.body, .num it.mode, .num it.creds, .txt it.page, .txt it.csp, .num it.refer]).flatMap refRow) := h22; have hT76 := h22; refine DRW.opE rfl rfl (runs_appendRA [_] Try.underlying132 ti129 rfl (by decide) rfl rfl hst hg hT76 (by have := hgl; omega) (by have := hgl; unfold maxLen; omega)) ?_; rintro uN77 w ⟨LvN77, hstn, hgN77⟩; clear hst; have hst := hstn; clear hstn; refine ⟨FSt.of hst hJ22 (by first | exact ((List.sublist_append_right _ _).cons_cons _) | exact (((List.sublist_append_right _ _).cons_cons _).trans (List.sublist_append_right _ _))), ?_⟩; refine DRW.q rfl rfl (fun w' hF => runs_assign rfl) ?_; refine DRW.done ?_; refine AQ.next ?_; refine CW.seq ?_
    refine CW.draw (FSt w0 _ ((b1, Obj.cells #[.int .i64 it.id, .int .i64 it.kind, .int .i64 it.group, .string it.name, .string it.method, .string it.url, .slice A it.heads.length c, .string it.body, .int .i64 it.mode, .int .i64 it.creds, .string it.page, .string it.csp, .int .i64 it.refer, .string it.nurl, .string it.nmethod, .string it.nbody, .int .i64 it.hops, .int .i64 it.tries, .int .i64 it.til, .bool it.tainted, .string it.got, .string it.tag, .int .i64 it.state, .int .i64 it.code, .bool it.acked] 36) :: L)) (.q 0 (.q 1 (.q 2 (.q 4 (.q 5 (.q 7 (.q 8 (.q 10 (.q 11 (.q 13 (.q 14 (.q 16 (.q 17 (.q 19 (.q 20 (.l 3 (.l 6 (.l 9 (.l 12 (.l 15 (.l 18 (.l 21 (.l 22 (.l 23 (.q 24 .nil))))))))))))))))))))))))) follows (by kernel_rfl) ⟨_, Imm.le.refl _, hst.draw.sub ((List.sublist_append_right _ _).cons_cons _)⟩ ?_; replace hst := hst.draw; refine DRW.q rfl rfl (fun w' hF => runs_move rfl) ?_
    refine DRW.q rfl rfl (fun w' hF => runs_fieldAddr0 rfl Try.underlying36 rfl ti9 (by decide)) ?_
    refine DRW.q rfl rfl (FSt.load1_own sc9 rfl (k := 0) rfl rfl) ?_
    refine DRW.q rfl rfl (fun w' hF => runs_fieldAddr0 rfl Try.underlying36 rfl ti9 (by decide)) ?_
    refine DRW.q rfl rfl (FSt.load1_own sc9 rfl (k := 0) rfl rfl) ?_
    refine DRW.q rfl rfl (fun w' hF => runs_fieldAddr0 rfl Try.underlying36 rfl ti9 (by decide)) ?_
    refine DRW.q rfl rfl (FSt.load1_own sc9 rfl (k := 0) rfl rfl) ?_
    refine DRW.q rfl rfl (fun w' hF => runs_fieldAddr0 rfl Try.underlying36 rfl ti3 (by decide)) ?_
    refine DRW.q rfl rfl (FSt.load1_own sc3 rfl (k := 0) rfl rfl) ?_
    refine DRW.q rfl rfl (fun w' hF => runs_fieldAddr0 rfl Try.underlying36 rfl ti3 (by decide)) ?_
    refine DRW.q rfl rfl (FSt.load1_own sc3 rfl (k := 0) rfl rfl) ?_
    refine DRW.q rfl rfl (fun w' hF => runs_fieldAddr0 rfl Try.underlying36 rfl ti3 (by decide)) ?_
    refine DRW.q rfl rfl (FSt.load1_own sc3 rfl (k := 0) rfl rfl) ?_
    refine DRW.q rfl rfl (fun w' hF => runs_fieldAddr0 rfl Try.underlying36 rfl ti4 (by decide)) ?_
    refine DRW.q rfl rfl (FSt.load1_own sc4 rfl (k := 0) rfl rfl) ?_
    refine DRW.call rfl rfl call80 rfl rfl (refS_spec hst _) ?_; rintro e w ⟨rfl, hstn⟩; clear hst; have hst := hstn; clear hstn; refine ⟨_, rfl, FSt.of hst (Imm.le.refl _) (by first | exact ((List.sublist_append_right _ _).cons_cons _) | exact (((List.sublist_append_right _ _).cons_cons _).trans (List.sublist_append_right _ _))), ?_⟩; refine DRW.call rfl rfl call80 rfl rfl (refS_spec hst _) ?_; rintro e w ⟨rfl, hstn⟩; clear hst; have hst := hstn; clear hstn; refine ⟨_, rfl, FSt.of hst (Imm.le.refl _) (by first | exact ((List.sublist_append_right _ _).cons_cons _) | exact (((List.sublist_append_right _ _).cons_cons _).trans (List.sublist_append_right _ _))), ?_⟩; refine DRW.call rfl rfl call80 rfl rfl (refS_spec hst _) ?_; rintro e w ⟨rfl, hstn⟩; clear hst; have hst := hstn; clear hstn; refine ⟨_, rfl, FSt.of hst (Imm.le.refl _) (by first | exact ((List.sublist_append_right _ _).cons_cons _) | exact (((List.sublist_append_right _ _).cons_cons _).trans (List.sublist_append_right _ _))), ?_⟩; refine DRW.call rfl rfl call79 rfl rfl (refI_spec hst _) ?_; rintro e w ⟨rfl, hstn⟩; clear hst; have hst := hstn; clear hstn; refine ⟨_, rfl, FSt.of hst (Imm.le.refl _) (by first | exact ((List.sublist_append_right _ _).cons_cons _) | exact (((List.sublist_append_right _ _).cons_cons _).trans (List.sublist_append_right _ _))), ?_⟩; refine DRW.call rfl rfl call79 rfl rfl (refI_spec hst _) ?_; rintro e w ⟨rfl, hstn⟩; clear hst; have hst := hstn; clear hstn
    refine ⟨_, rfl, FSt.of hst (Imm.le.refl _) (by first | exact ((List.sublist_append_right _ _).cons_cons _) | exact (((List.sublist_append_right _ _).cons_cons _).trans (List.sublist_append_right _ _))), ?_⟩; refine DRW.call rfl rfl call79 rfl rfl (refI_spec hst _) ?_; rintro e w ⟨rfl, hstn⟩; clear hst; have hst := hstn; clear hstn; refine ⟨_, rfl, FSt.of hst (Imm.le.refl _) (by first | exact ((List.sublist_append_right _ _).cons_cons _) | exact (((List.sublist_append_right _ _).cons_cons _).trans (List.sublist_append_right _ _))), ?_⟩; refine DRW.call rfl rfl call81 rfl rfl (refB_spec hst _) ?_; rintro e w ⟨rfl, hstn⟩; clear hst; have hst := hstn; clear hstn; refine ⟨_, rfl, FSt.of hst (Imm.le.refl _) (by first | exact ((List.sublist_append_right _ _).cons_cons _) | exact (((List.sublist_append_right _ _).cons_cons _).trans (List.sublist_append_right _ _))), ?_⟩; refine DRW.opE rfl rfl (runs_litF (xs := [.agg #[_, _, _, _], .agg #[_, _, _, _], .agg #[_, _, _, _], .agg #[_, _, _, _], .agg #[_, _, _, _], .agg #[_, _, _, _], .agg #[_, _, _, _]]) Try.underlying132 ti129 (by decide) rfl rfl rfl rfl rfl hst (by decide)) ?_; rintro u31 w ⟨Lv31, hstn, hg31⟩; clear hst; have hst := hstn; clear hstn; refine ⟨FSt.of hst (Imm.le.refl _) (by first | exact ((List.sublist_append_right _ _).cons_cons _) | exact (((List.sublist_append_right _ _).cons_cons _).trans (List.sublist_append_right _ _))), ?_⟩; obtain ⟨J31, hJ31, hstn, h31⟩ := Grow.freeze hg31 hst; clear hst; have hst := hstn
    clear hstn; replace hv := hv.mono hJ31; replace h22 := h22.mono hJ31; replace hT76 := hT76.mono hJ31; replace hle := hle.trans hJ31; try simp only [List.nil_append] at h31
    replace h31 : RdL J31 4 u31 7 (([AV.txt it.nurl, .txt it.nmethod, .txt it.nbody, .num it.hops, .num it.tries, .num it.til, .flg it.tainted]).flatMap refRow) := h31; have hT100 := h31; refine DRW.opE rfl rfl (runs_appendRA [_] Try.underlying132 ti129 rfl (by decide) rfl rfl hst hgN77 hT100 (by have := hgl; omega) (by have := hgl; unfold maxLen; omega)) ?_; rintro uN101 w ⟨LvN101, hstn, hgN101⟩; clear hst; have hst := hstn; clear hstn; refine ⟨FSt.of hst hJ31 (by first | exact ((List.sublist_append_right _ _).cons_cons _) | exact (((List.sublist_append_right _ _).cons_cons _).trans (List.sublist_append_right _ _))), ?_⟩; refine DRW.q rfl rfl (fun w' hF => runs_assign rfl) ?_; refine DRW.done ?_; refine AQ.next ?_; refine CW.seq ?_
    refine CW.draw (FSt w0 _ ((b1, Obj.cells #[.int .i64 it.id, .int .i64 it.kind, .int .i64 it.group, .string it.name, .string it.method, .string it.url, .slice A it.heads.length c, .string it.body, .int .i64 it.mode, .int .i64 it.creds, .string it.page, .string it.csp, .int .i64 it.refer, .string it.nurl, .string it.nmethod, .string it.nbody, .int .i64 it.hops, .int .i64 it.tries, .int .i64 it.til, .bool it.tainted, .string it.got, .string it.tag, .int .i64 it.state, .int .i64 it.code, .bool it.acked] 36) :: L)) (.q 0 (.q 1 (.q 2 (.q 4 (.q 5 (.q 7 (.q 8 (.q 10 (.q 11 (.q 13 (.q 14 (.l 3 (.l 6 (.l 9 (.l 12 (.l 15 (.l 16 (.l 17 (.q 18 .nil))))))))))))))))))) follows (by kernel_rfl) ⟨_, Imm.le.refl _, hst.draw.sub ((List.sublist_append_right _ _).cons_cons _)⟩ ?_; replace hst := hst.draw; refine DRW.q rfl rfl (fun w' hF => runs_move rfl) ?_
    refine DRW.q rfl rfl (fun w' hF => runs_fieldAddr0 rfl Try.underlying36 rfl ti9 (by decide)) ?_
    refine DRW.q rfl rfl (FSt.load1_own sc9 rfl (k := 0) rfl rfl) ?_
    refine DRW.q rfl rfl (fun w' hF => runs_fieldAddr0 rfl Try.underlying36 rfl ti9 (by decide)) ?_
    refine DRW.q rfl rfl (FSt.load1_own sc9 rfl (k := 0) rfl rfl) ?_
    refine DRW.q rfl rfl (fun w' hF => runs_fieldAddr0 rfl Try.underlying36 rfl ti3 (by decide)) ?_
    refine DRW.q rfl rfl (FSt.load1_own sc3 rfl (k := 0) rfl rfl) ?_
    refine DRW.q rfl rfl (fun w' hF => runs_fieldAddr0 rfl Try.underlying36 rfl ti3 (by decide)) ?_
    refine DRW.q rfl rfl (FSt.load1_own sc3 rfl (k := 0) rfl rfl) ?_
    refine DRW.q rfl rfl (fun w' hF => runs_fieldAddr0 rfl Try.underlying36 rfl ti4 (by decide)) ?_
    refine DRW.q rfl rfl (FSt.load1_own sc4 rfl (k := 0) rfl rfl) ?_
    refine DRW.call rfl rfl call80 rfl rfl (refS_spec hst _) ?_; rintro e w ⟨rfl, hstn⟩; clear hst; have hst := hstn; clear hstn; refine ⟨_, rfl, FSt.of hst (Imm.le.refl _) (by first | exact ((List.sublist_append_right _ _).cons_cons _) | exact (((List.sublist_append_right _ _).cons_cons _).trans (List.sublist_append_right _ _))), ?_⟩; refine DRW.call rfl rfl call80 rfl rfl (refS_spec hst _) ?_; rintro e w ⟨rfl, hstn⟩; clear hst; have hst := hstn; clear hstn; refine ⟨_, rfl, FSt.of hst (Imm.le.refl _) (by first | exact ((List.sublist_append_right _ _).cons_cons _) | exact (((List.sublist_append_right _ _).cons_cons _).trans (List.sublist_append_right _ _))), ?_⟩; refine DRW.call rfl rfl call79 rfl rfl (refI_spec hst _) ?_; rintro e w ⟨rfl, hstn⟩; clear hst; have hst := hstn; clear hstn; refine ⟨_, rfl, FSt.of hst (Imm.le.refl _) (by first | exact ((List.sublist_append_right _ _).cons_cons _) | exact (((List.sublist_append_right _ _).cons_cons _).trans (List.sublist_append_right _ _))), ?_⟩; refine DRW.call rfl rfl call79 rfl rfl (refI_spec hst _) ?_; rintro e w ⟨rfl, hstn⟩; clear hst; have hst := hstn; clear hstn; refine ⟨_, rfl, FSt.of hst (Imm.le.refl _) (by first | exact ((List.sublist_append_right _ _).cons_cons _) | exact (((List.sublist_append_right _ _).cons_cons _).trans (List.sublist_append_right _ _))), ?_⟩; refine DRW.call rfl rfl call81 rfl rfl (refB_spec hst _) ?_; rintro e w ⟨rfl, hstn⟩; clear hst; have hst := hstn; clear hstn
    refine ⟨_, rfl, FSt.of hst (Imm.le.refl _) (by first | exact ((List.sublist_append_right _ _).cons_cons _) | exact (((List.sublist_append_right _ _).cons_cons _).trans (List.sublist_append_right _ _))), ?_⟩; refine DRW.opE rfl rfl (runs_litF (xs := [.agg #[_, _, _, _], .agg #[_, _, _, _], .agg #[_, _, _, _], .agg #[_, _, _, _], .agg #[_, _, _, _]]) Try.underlying132 ti129 (by decide) rfl rfl rfl rfl rfl hst (by decide)) ?_; rintro u38 w ⟨Lv38, hstn, hg38⟩; clear hst; have hst := hstn; clear hstn; refine ⟨FSt.of hst (Imm.le.refl _) (by first | exact ((List.sublist_append_right _ _).cons_cons _) | exact (((List.sublist_append_right _ _).cons_cons _).trans (List.sublist_append_right _ _))), ?_⟩; obtain ⟨J38, hJ38, hstn, h38⟩ := Grow.freeze hg38 hst; clear hst; have hst := hstn; clear hstn; replace hv := hv.mono hJ38; replace h22 := h22.mono hJ38; replace hT76 := hT76.mono hJ38; replace h31 := h31.mono hJ38; replace hT100 := hT100.mono hJ38; replace hle := hle.trans hJ38; try simp only [List.nil_append] at h38
    replace h38 : RdL J38 4 u38 5 (([AV.txt it.got, .txt it.tag, .num it.state, .num it.code, .flg it.acked]).flatMap refRow) := h38; have hT118 := h38; refine DRW.opE rfl rfl (runs_appendRA [_] Try.underlying132 ti129 rfl (by decide) rfl rfl hst hgN101 hT118 (by have := hgl; omega) (by have := hgl; unfold maxLen; omega)) ?_; rintro uN119 w ⟨LvN119, hstn, hgN119⟩; clear hst; have hst := hstn; clear hstn; refine ⟨FSt.of hst hJ38 (by first | exact ((List.sublist_append_right _ _).cons_cons _) | exact (((List.sublist_append_right _ _).cons_cons _).trans (List.sublist_append_right _ _))), ?_⟩; refine DRW.q rfl rfl (fun w' hF => runs_assign rfl) ?_; refine DRW.done ?_; refine AQ.next ?_; refine CW.seq ?_; refine CW.region ?_; obtain ⟨J9, hJ9, hstn, hall⟩ := hgN119.freeze (hst.perm (List.perm_middle (l₁ := LvN119)).symm); clear hst; have hst := hstn; clear hstn; replace hle := hle.trans hJ9; replace hv := hv.mono hJ9
    have hall2 : RdV J9 uN119 (itAV it) := by
      have e : itAV it = headAV it ++ hAV it.heads ++ [AV.txt it.body, .num it.mode, .num it.creds, .txt it.page, .txt it.csp, .num it.refer] ++ [AV.txt it.nurl, .txt it.nmethod, .txt it.nbody, .num it.hops, .num it.tries, .num it.til, .flg it.tainted] ++ [AV.txt it.got, .txt it.tag, .num it.state, .num it.code, .flg it.acked] := by unfold itAV tailAV; simp
      unfold RdV; rw [e]; rw [List.length_append, List.length_append, List.length_append, List.flatMap_append, List.flatMap_append, List.flatMap_append]; exact hall
    refine RW.op1 rfl (runs_move rfl) ?_; refine RW.call rfl call82 rfl rfl (refenc_spec hst hall2 hgood (by rw [itAV_len]; omega)) ?_; rintro e w ⟨J121, v121, hJ121, rfl, hstn, hv121⟩; clear hst; have hst := hstn; clear hstn; replace hv := hv.mono hJ121; replace hle := hle.trans hJ121; refine ⟨_, rfl, ?_⟩; refine RW.op1 rfl (runs_extract rfl rfl) ?_; refine RW.op1 rfl (runs_extract rfl rfl) ?_; refine RW.op1 rfl (runs_assign rfl) ?_; refine RW.op1 rfl (runs_assign rfl) ?_; refine RW.done ?_; refine AQ.next ?_; refine CW.ret ?_; refine AQ.ret2 rfl rfl rfl ?_; exact ⟨_, v121, hle, rfl, hst.drop1, hv121⟩
end Go.Proofs.YtlmmpcdjkpibcaaX
namespace Go.Proofs.YtlmmpcdjkpibcaaX
set_option linter.unusedVariables false
set_option linter.unusedSimpArgs false
open Go Go.RowKit
variable {w0 w : World} {I : Imm} {L : Own} {P : Program} {l : Env} {ty : TypeId}
def GrowR (I : Imm) (e : TypeId) (v : Value) (bss : List (List UInt8)) (Lv : Own) : Prop :=
  ∃ vs : List Value, Grow e 1 v vs.length vs Lv ∧ vs.length = bss.length ∧ ∀ (i : Nat) (u : Value) (b : List UInt8), vs[i]? = some u → bss[i]? = some b → RdB I u b
theorem GrowR.mono {I' : Imm} {e : TypeId} {v : Value} {bss : List (List UInt8)} {Lv : Own} (h : GrowR I e v bss Lv) (hI : I.le I') : GrowR I' e v bss Lv :=
  let ⟨vs, h1, h2, h3⟩ := h
  ⟨vs, h1, h2, fun i u b h4 h5 => RdL.mono hI (h3 i u b h4 h5)⟩
theorem GrowR.nil (e : TypeId) : GrowR I e (.slice none 0 0) [] [] := ⟨[], Grow.nil e 1, rfl, fun i u b h => by simp at h⟩
theorem GrowR.freeze {e : TypeId} {v : Value} {bss : List (List UInt8)} {Lv : Own} (hg : GrowR I e v bss Lv) (h : St w0 w I (Lv ++ L)) : ∃ I' vs, I.le I' ∧ St w0 w I' L ∧ RdR I' v vs bss := by
  obtain ⟨vs, h1, h2, h3⟩ := hg; obtain ⟨I', h4, h5, h6⟩ := h1.freeze h; exact ⟨I', vs, h4, h5, h6, h2, fun i u b h7 h8 => RdL.mono h4 (h3 i u b h7 h8)⟩
end Go.Proofs.YtlmmpcdjkpibcaaX
namespace Go.Proofs.YtlmmpcdjkpibcaaX
set_option linter.unusedVariables false
set_option linter.unusedSimpArgs false
open Go Go.RowKit Go.Proofs
theorem GrowR.one {I : Imm} {e : TypeId} {v u : Value} {b : List UInt8} {Lv : Own} (h : Grow e 1 v 1 [u] Lv) (hb : RdB I u b) : GrowR I e v [b] Lv := by
  refine ⟨[u], h, rfl, fun i x d h1 h2 => ?_⟩
  have hi : i = 0 := by have := (List.getElem?_eq_some_iff.1 h1).1; simp at this; exact this
  subst hi
  cases h1
  cases h2
  exact hb
set_option maxRecDepth 100000 in
set_option maxHeartbeats 4000000 in
theorem same17_spec {w0 w : World} {I : Imm} {L : Own} (hst : St w0 w I L) {a b : It} {va vb : Value} (ha : RdH I va a.heads) (hb : RdH I vb b.heads) (oka : ItOk a) (okb : ItOk b) (la : a.heads.length ≤ 1000) (lb : b.heads.length ≤ 1000) (ea : encOk (itAV a) = true) (eb : encOk (itAV b) = true) :
    Calls Try.prog 43 #[itv a va, itv b vb] w fun e w' => ∃ I', I.le I' ∧ e = .returned (.bool (encA (itAV a) == encA (itAV b))) ∧ St w0 w' I' L := by
  refine enter Try.func43 rfl (N := 30) rfl rfl ?_
  simp only [List.zipIdx_cons, List.zipIdx_nil, List.map_cons, List.map_nil, Nat.zero_add, Nat.reduceAdd]
  have hle := Imm.le.refl I; refine CW.seq ?_; refine CW.region ?_; refine RW.opE rfl (runs_box rfl hst) ?_; rintro _ w ⟨b1, rfl, hstn⟩; clear hst; have hst := hstn; clear hstn; refine RW.opE rfl (runs_box rfl hst) ?_; rintro _ w ⟨b2, rfl, hstn⟩; clear hst; have hst := hstn; clear hstn; refine RW.op1 rfl (runs_assign rfl) ?_; refine RW.done ?_; refine AQ.next ?_; refine CW.seq ?_; refine CW.region ?_; refine RW.op1 rfl (runs_loadN (vs := [.int .i64 (a).id, .int .i64 (a).kind, .int .i64 (a).group, .string (a).name, .string (a).method, .string (a).url, va, .string (a).body, .int .i64 (a).mode, .int .i64 (a).creds, .string (a).page, .string (a).csp, .int .i64 (a).refer, .string (a).nurl, .string (a).nmethod, .string (a).nbody, .int .i64 (a).hops, .int .i64 (a).tries, .int .i64 (a).til, .bool (a).tainted, .string (a).got, .string (a).tag, .int .i64 (a).state, .int .i64 (a).code, .bool (a).acked]) ag36 ti36 rfl hst (k := 1) rfl rfl rfl) ?_; refine RW.call rfl call70 rfl rfl (rbytes17_spec hst ha oka la) ?_; rintro e w ⟨J11, v11, hJ11, rfl, hstn, h11⟩; clear hst; have hst := hstn; clear hstn; rw [ea] at h11 ⊢; rw [if_pos rfl] at h11; replace ha := ha.mono hJ11; replace hb := hb.mono hJ11; replace hle := hle.trans hJ11; refine ⟨_, rfl, ?_⟩; refine RW.op1 rfl (runs_move rfl) ?_; refine RW.op1 rfl (runs_extract rfl rfl) ?_; refine RW.op1 rfl (runs_extract rfl rfl) ?_; refine RW.op1 rfl (runs_assign rfl) ?_; refine RW.op1 rfl (runs_assign rfl) ?_; refine RW.done ?_; refine AQ.next ?_
  refine CW.seq ?_; refine CW.region ?_; refine RW.op1 rfl (runs_loadN (vs := [.int .i64 (b).id, .int .i64 (b).kind, .int .i64 (b).group, .string (b).name, .string (b).method, .string (b).url, vb, .string (b).body, .int .i64 (b).mode, .int .i64 (b).creds, .string (b).page, .string (b).csp, .int .i64 (b).refer, .string (b).nurl, .string (b).nmethod, .string (b).nbody, .int .i64 (b).hops, .int .i64 (b).tries, .int .i64 (b).til, .bool (b).tainted, .string (b).got, .string (b).tag, .int .i64 (b).state, .int .i64 (b).code, .bool (b).acked]) ag36 ti36 rfl hst (k := 0) rfl rfl rfl) ?_; refine RW.call rfl call70 rfl rfl (rbytes17_spec hst hb okb lb) ?_; rintro e w ⟨J16, v16, hJ16, rfl, hstn, h16⟩; clear hst; have hst := hstn; clear hstn; rw [eb] at h16 ⊢; rw [if_pos rfl] at h16; replace ha := ha.mono hJ16; replace hb := hb.mono hJ16; replace h11 := h11.mono hJ16; replace hle := hle.trans hJ16; refine ⟨_, rfl, ?_⟩; refine RW.op1 rfl (runs_move rfl) ?_; refine RW.op1 rfl (runs_extract rfl rfl) ?_; refine RW.op1 rfl (runs_extract rfl rfl) ?_; refine RW.op1 rfl (runs_assign rfl) ?_; refine RW.op1 rfl (runs_assign rfl) ?_; refine RW.done ?_; refine AQ.next ?_; refine CW.seq ?_; refine CW.region ?_; refine RW.op1 rfl (runs_move rfl) ?_; refine RW.op1 rfl (runs_move rfl) ?_; have hk20 := (show (true : Bool) = true from rfl); refine RW.on_guard rfl rfl rfl rfl hk20 ?_; refine RW.op1 rfl (runs_move rfl) ?_; refine RW.op1 rfl (runs_pick_true rfl hk20 rfl) ?_
  refine RW.op1 rfl (runs_move rfl) ?_; have hk23 := (show (true : Bool) = true from rfl); refine RW.on_guard rfl rfl rfl rfl hk23 ?_; refine RW.op1 rfl (runs_move rfl) ?_; refine RW.on_guard rfl rfl rfl rfl hk23 ?_; refine RW.op1 rfl (RdB.string Try.underlying43 Try.underlying5 Try.underlying9 rfl h11 hst) ?_; refine RW.on_guard rfl rfl rfl rfl hk23 ?_; refine RW.op1 rfl (runs_move rfl) ?_; refine RW.on_guard rfl rfl rfl rfl hk23 ?_; refine RW.op1 rfl (RdB.string Try.underlying43 Try.underlying5 Try.underlying9 rfl h16 hst) ?_; refine RW.on_guard rfl rfl rfl rfl hk23 ?_; refine RW.op1 rfl (runs_eqS rfl rfl) ?_; refine RW.op1 rfl (runs_pick_true rfl hk23 rfl) ?_; refine RW.op1 rfl (runs_assign rfl) ?_; refine RW.done ?_; refine AQ.next ?_; refine CW.ret ?_; refine AQ.ret1 rfl rfl ?_; refine ⟨_, hle, ?_, hst.drop1.drop1⟩; rw [strOf_toList, strOf_toList]
end Go.Proofs.YtlmmpcdjkpibcaaX
namespace Go.Proofs.YtlmmpcdjkpibcaaX
set_option linter.unusedVariables false
set_option linter.unusedSimpArgs false
open Go Go.RowKit Go.Proofs
set_option maxRecDepth 100000 in
set_option maxHeartbeats 4000000 in
theorem same18_spec {w0 w : World} {I : Imm} {L : Own} {rows : List TRow} {next : Int} {bT : Nat} {Lt : Own} (hd : TbO I rows next bT Lt) (hst : St w0 w I (Lt ++ L)) {v : Value} {its : List (It × Value)} (hv : RdT I v its) (hok : ItsOk its) (htr : Tr its (absT rows)) (hneg : ∀ p ∈ its, 0 ≤ p.1.id) (hlen : its.length ≤ 1000) :
    Calls Try.prog 22 #[.pointer (some ⟨bT, 0, none⟩), v, .int .i64 next] w fun e w' => ∃ I', I.le I' ∧ e = .returned (.bool true) ∧ St w0 w' I' (Lt ++ L) := by
  have hnd : (rows.map Prod.fst).Nodup := by obtain ⟨_, _, _, _, h, _⟩ := hd; exact h
  have hks : keysUp rows = its.map fun p => p.1.id := by
    rw [← absT_keysUp]; exact htr.keys (by rw [absT_keys]; exact hnd)
  have hrl : rows.length = its.length := by
    have := congrArg List.length hks; rw [keysUp_len, List.length_map] at this; exact this
  have hno : (pget rows (-1)).isSome = false := absT_none (by
    cases hp : pget (absT rows) (-1) with
    | none => rfl
    | some it =>
      obtain ⟨v2, h1, h2⟩ := htr.has _ _ hp; have := hneg _ h1; dsimp only at this
      omega)
  refine enter Try.func22 rfl (N := 62) rfl rfl ?_
  simp only [List.zipIdx_cons, List.zipIdx_nil, List.map_cons, List.map_nil, Nat.zero_add, Nat.reduceAdd]
  have hle := Imm.le.refl I; refine CW.seq ?_; refine CW.region ?_; refine RW.op1 rfl (runs_assign rfl) ?_; refine RW.done ?_; refine AQ.next ?_; refine CW.seq ?_; refine CW.seq ?_; refine CW.region ?_; refine RW.op1 rfl (runs_move rfl) ?_; refine RW.op1 rfl (runs_eq_nilptr Try.underlying23 rfl) ?_; refine RW.op1 rfl (runs_move rfl) ?_; have hk16 := (show (some (⟨bT, 0, none⟩ : Addr)).isNone = false from rfl); refine RW.on_guard rfl rfl rfl rfl hk16 ?_; refine RW.op1 rfl (runs_move rfl) ?_; refine RW.on_guard rfl rfl rfl rfl hk16 ?_; refine RW.call rfl call11 rfl rfl (next_spec hd hst) ?_; rintro e w ⟨rfl, hstn⟩; clear hst; have hst := hstn; clear hstn; refine ⟨_, rfl, ?_⟩; refine RW.on_guard rfl rfl rfl rfl hk16 ?_; refine RW.op1 rfl (runs_move rfl) ?_; refine RW.on_guard rfl rfl rfl rfl hk16 ?_; refine RW.op1 rfl (runs_neI rfl rfl) ?_; refine RW.op1 rfl (runs_pick_false rfl hk16 rfl) ?_; refine RW.done ?_; refine AQ.next ?_; refine CW.cond rfl (fun hc => absurd hc (by simp)) (fun hc => ?_); refine CW.skip ?_; refine AQ.next ?_; refine CW.seq ?_; refine CW.region ?_; refine RW.op1 rfl (runs_assign rfl) ?_; refine RW.done ?_; refine AQ.next ?_; refine CW.seq ?_; refine CW.seq ?_; refine CW.region ?_; refine RW.op1 rfl (runs_move rfl) ?_; refine RW.op1 rfl (RdL.len Try.underlying59 rfl hv.1) ?_; refine RW.op1 rfl (runs_move rfl) ?_; refine RW.done ?_; refine AQ.next ?_; refine CW.block ?_
  refine CW.loop (Nat × Imm × Value × Own) (fun x w => I.le x.2.1 ∧ RdT x.2.1 v its ∧ TbO x.2.1 rows next bT Lt ∧ Grow 3 1 x.2.2.1 x.1 (((its.take x.1).map fun p => p.1.id).map i64) x.2.2.2 ∧ x.1 ≤ its.length ∧ St w0 w x.2.1 (x.2.2.2 ++ (Lt ++ L))) (fun x => [(0, .pointer (some ⟨bT, 0, none⟩)), (1, v), (2, .int .i64 next), (7, x.2.2.1), (22, v), (23, .int .i64 (its.length : Nat)), (24, .int .i64 (x.1 : Int))]) (fun x => its.length - x.1) ⟨(0, _, _, []), ⟨hle, hv, hd, Grow.nil _ _, Nat.zero_le _, hst⟩, ⟨rfl, rfl, rfl, rfl, rfl, rfl, rfl, trivial⟩⟩ ?_; clear hle hv hd hst; rintro ⟨k, J, vo, Lo⟩ w ⟨hle, hv, hd, hg, hk, hstn⟩; dsimp only at hle hv hd hg hk hstn ⊢; have hst := hstn; clear hstn; refine CW.seq ?_; refine CW.region ?_; refine RW.op1 rfl (runs_lss rfl rfl) ?_; refine RW.done ?_; refine AQ.next ?_; refine CW.seq ?_; refine CW.cond rfl (fun hc25 => ?_) (fun hc25 => ?_)
  · have hcb25 := hc25; try simp only [decide_eq_true_eq, decide_eq_false_iff_not] at hc25
    have hk1 : k < its.length := by omega
    obtain ⟨⟨it, vh⟩, hr⟩ : ∃ p, its[k]? = some p := ⟨_, List.getElem?_eq_getElem hk1⟩; have hin : (it, vh) ∈ its := List.mem_of_getElem? hr; have hvh := hv.2 _ hin; obtain ⟨o1, o2, o3⟩ := hok _ hin; obtain ⟨hso, hge⟩ := absT_some (htr.get _ hin)
    have htk : ((its.take (k + 1)).map fun p => p.1.id) = ((its.take k).map fun p => p.1.id) ++ [it.id] := by
      rw [List.take_add_one, hr, List.map_append]
      rfl
    dsimp only at hvh o1 o2 o3 hso hge; refine CW.skip ?_; refine AQ.next ?_; refine CW.seq ?_; refine CW.block ?_; refine CW.seq ?_; refine CW.region ?_; refine RW.op1 rfl (RdL.indexAddr Try.underlying59 ti36 (by decide) rfl rfl hv.1 (by omega)) ?_; refine RW.op1 rfl (RdL.loadRow (row := irow2 it vh) ag36 ti36 rfl hv.1 hst rfl (irow_at hr)) ?_; refine RW.opE rfl (runs_alloc ti36 hst) ?_; rintro _ w ⟨b2, rfl, hstn⟩; clear hst; have hst := hstn; clear hstn; refine RW.opE0 (runs_storeW ti36 rfl rfl hst (k := 0) rfl rfl rfl (NoFz.zero _) (it_one it hvh.one)) ?_; rintro w hstn; clear hst; have hst := hstn; clear hstn; try simp only [List.set_cons_zero, List.set_cons_succ] at hst
    refine RW.done ?_; refine AQ.next ?_; refine CW.seq ?_; refine CW.region ?_; refine RW.op1 rfl (runs_move rfl) ?_
    refine RW.op1 rfl (runs_fieldAddr0 rfl Try.underlying36 rfl ti3 (by decide)) ?_
    refine RW.op1 rfl (runs_load1 sc3 rfl (hst.cell_own (k := 0) rfl rfl)) ?_
    refine RW.opE rfl (runs_lit1R Try.underlying22 ti3 (by decide) rfl rfl rfl (by simp [Value.oneCell']) hst) ?_; rintro u4 w ⟨I4, hI4, hstn, h4⟩; clear hst; have hst := hstn; clear hstn; replace hv := hv.mono hI4; replace hd := hd.mono hI4; replace hle := hle.trans hI4; have hT := h4; refine RW.opE rfl (runs_appendRA [_] Try.underlying22 ti3 rfl (by decide) rfl rfl hst hg hT (by omega) (by unfold maxLen; omega)) ?_; rintro uN w ⟨LvN, hstn, hgN⟩; clear hst; have hst := hstn; clear hstn; replace hst : St w0 w _ (_ :: (LvN ++ (Lt ++ L))) := hst; refine RW.op1 rfl (runs_assign rfl) ?_; refine RW.done ?_; refine AQ.next ?_; refine CW.seq ?_; refine CW.region ?_; refine RW.op1 rfl (runs_move rfl) ?_
    refine RW.op1 rfl (runs_fieldAddr0 rfl Try.underlying36 rfl ti3 (by decide)) ?_
    refine RW.op1 rfl (runs_load1 sc3 rfl (hst.cell_own (k := 0) rfl rfl)) ?_
    refine RW.call rfl call13 rfl rfl (get_spec hd (hst.perm permO) it.id) ?_; rintro e w ⟨it2, v37, Lv37, rfl, hstn, hv37, hg37, _, he37⟩; clear hst; have hst := hstn; clear hstn; rw [hge] at he37; subst he37; rw [hso]; obtain ⟨J37, hJ37, hst37, hfz⟩ := hg37.freeze hst; clear hst; replace hst37 := hst37.perm (List.perm_middle (l₁ := Lt)); have hst := hst37; clear hst37; replace hv := hv.mono hJ37; replace hd := hd.mono hJ37; replace h4 := h4.mono hJ37; replace hT := hT.mono hJ37; replace hle := hle.trans hJ37; refine ⟨_, rfl, ?_⟩; refine RW.op1 rfl (runs_move rfl) ?_; refine RW.op1 rfl (runs_extract rfl rfl) ?_; refine RW.op1 rfl (runs_extract rfl rfl) ?_; refine RW.opE rfl (runs_alloc ti36 hst) ?_; rintro _ w ⟨b7, rfl, hstn⟩; clear hst; have hst := hstn; clear hstn; refine RW.opE0 (runs_storeW ti36 rfl rfl hst (k := 0) rfl rfl rfl (NoFz.zero _) (it_one it hv37)) ?_; rintro w hstn; clear hst; have hst := hstn; clear hstn; try simp only [List.set_cons_zero, List.set_cons_succ] at hst
    refine RW.op1 rfl (runs_assign rfl) ?_; refine RW.done ?_; refine AQ.next ?_; refine CW.seq ?_; refine CW.region ?_; refine RW.op1 rfl (runs_move rfl) ?_; refine RW.op1 rfl (runs_not rfl) ?_; refine RW.op1 rfl (runs_move rfl) ?_; have hk42 := (show (!true) = false from rfl); refine RW.on_guard rfl rfl rfl rfl hk42 ?_; refine RW.op1 rfl (runs_loadN (vs := [.int .i64 (it).id, .int .i64 (it).kind, .int .i64 (it).group, .string (it).name, .string (it).method, .string (it).url, v37, .string (it).body, .int .i64 (it).mode, .int .i64 (it).creds, .string (it).page, .string (it).csp, .int .i64 (it).refer, .string (it).nurl, .string (it).nmethod, .string (it).nbody, .int .i64 (it).hops, .int .i64 (it).tries, .int .i64 (it).til, .bool (it).tainted, .string (it).got, .string (it).tag, .int .i64 (it).state, .int .i64 (it).code, .bool (it).acked]) ag36 ti36 rfl hst (k := 0) rfl rfl rfl) ?_; refine RW.on_guard rfl rfl rfl rfl hk42 ?_
    refine RW.op1 rfl (runs_loadN (vs := [.int .i64 (it).id, .int .i64 (it).kind, .int .i64 (it).group, .string (it).name, .string (it).method, .string (it).url, vh, .string (it).body, .int .i64 (it).mode, .int .i64 (it).creds, .string (it).page, .string (it).csp, .int .i64 (it).refer, .string (it).nurl, .string (it).nmethod, .string (it).nbody, .int .i64 (it).hops, .int .i64 (it).tries, .int .i64 (it).til, .bool (it).tainted, .string (it).got, .string (it).tag, .int .i64 (it).state, .int .i64 (it).code, .bool (it).acked]) ag36 ti36 rfl hst (k := 1) rfl rfl rfl) ?_; refine RW.on_guard rfl rfl rfl rfl hk42 ?_; refine RW.call rfl call43 rfl rfl (same17_spec hst hfz (hv.2 _ hin) o1 o1 o3 o3 o2 o2) ?_; rintro e w ⟨J45, hJ45, rfl, hstn⟩; clear hst; have hst := hstn; clear hstn; replace hv := hv.mono hJ45; replace hd := hd.mono hJ45; replace h4 := h4.mono hJ45; replace hT := hT.mono hJ45; replace hfz := hfz.mono hJ45; replace hle := hle.trans hJ45; refine ⟨_, rfl, ?_⟩; refine RW.on_guard rfl rfl rfl rfl hk42 ?_; refine RW.op1 rfl (runs_not rfl) ?_; refine RW.op1 rfl (runs_pick_false rfl hk42 rfl) ?_; refine RW.done ?_; refine AQ.next ?_; refine CW.cond rfl (fun hc => absurd hc (by simp)) (fun hc => ?_); refine CW.skip ?_; refine AQ.block_normal ?_; refine AQ.next ?_; refine CW.region ?_; refine RW.op1 rfl (runs_add rfl rfl (by omega)) ?_; refine RW.op1 rfl (runs_move rfl) ?_; refine RW.done ?_
    exact AQ.again (x := (k, J, vo, Lo)) (k + 1, _, uN, LvN) ⟨hle, hv, hd, by dsimp only; rw [htk, List.map_append]; exact hgN, by dsimp only; omega, hst.drop1.drop1.perm permAB⟩ ⟨rfl, rfl, rfl, rfl, rfl, rfl, rfl, trivial⟩ (by dsimp only; omega)
  · have hcb25 := hc25; try simp only [decide_eq_true_eq, decide_eq_false_iff_not] at hc25
    have hke : k = its.length := by omega
    refine CW.exit ?_; refine AQ.past_exit ?_; refine AQ.past_exit ?_; refine AQ.block_hit ?_; refine AQ.next ?_; refine CW.seq ?_; refine CW.region ?_; obtain ⟨J12, hJ12, hst12, hids⟩ := hg.freeze hst; clear hst; have hst := hst12; clear hst12; replace hv := hv.mono hJ12; replace hd := hd.mono hJ12; replace hle := hle.trans hJ12; rw [hke, List.take_length] at hids
    have hids2 : RdI J12 vo (its.map fun p => p.1.id) := by
      unfold RdI; rw [List.length_map]; exact hids
    refine RW.op1 rfl (runs_move rfl) ?_; refine RW.call rfl call13 rfl rfl (get_spec hd hst (-1)) ?_; rintro e w ⟨it2, v51, Lv51, rfl, hstn, hv51, _, _, _⟩; clear hst; have hst := hstn; clear hstn; rw [hno]; replace hst := hst.dropF; refine ⟨_, rfl, ?_⟩; refine RW.op1 rfl (runs_move rfl) ?_; refine RW.op1 rfl (runs_extract rfl rfl) ?_; refine RW.op1 rfl (runs_extract rfl rfl) ?_; refine RW.opE rfl (runs_alloc ti36 hst) ?_; rintro _ w ⟨b11, rfl, hstn⟩; clear hst; have hst := hstn; clear hstn; refine RW.opE0 (runs_storeW ti36 rfl rfl hst (k := 0) rfl rfl rfl (NoFz.zero _) (it_one it2 hv51)) ?_; rintro w hstn; clear hst; have hst := hstn; clear hstn; try simp only [List.set_cons_zero, List.set_cons_succ] at hst
    refine RW.op1 rfl (runs_assign rfl) ?_; replace hst := hst.drop1; refine RW.done ?_; refine AQ.next ?_; refine CW.seq ?_; refine CW.region ?_; refine RW.op1 rfl (runs_move rfl) ?_; refine RW.call rfl call12 rfl rfl (ids_spec hd hst (by omega)) ?_; rintro e w ⟨J55, v55, hJ55, rfl, hstn, hv55⟩; clear hst; have hst := hstn; clear hstn; rw [hks] at hv55; replace hd := hd.mono hJ55; replace hids2 := hids2.mono hJ55; replace hle := hle.trans hJ55; refine ⟨_, rfl, ?_⟩; refine RW.op1 rfl (runs_move rfl) ?_; refine RW.call rfl call24 rfl rfl (sameI_spec hst hv55 hids2 (by rw [List.length_map]; omega)) ?_; rintro e w ⟨rfl, hstn⟩; clear hst; have hst := hstn; clear hstn; refine ⟨_, rfl, ?_⟩; refine RW.op1 rfl (runs_move rfl) ?_; have hk58 := (show (true : Bool) = true from rfl); refine RW.on_guard rfl rfl rfl rfl hk58 ?_; refine RW.op1 rfl (runs_move rfl) ?_; refine RW.on_guard rfl rfl rfl rfl hk58 ?_; refine RW.op1 rfl (runs_not rfl) ?_; refine RW.op1 rfl (runs_pick_true rfl hk58 rfl) ?_; refine RW.op1 rfl (runs_assign rfl) ?_; refine RW.done ?_; refine AQ.next ?_; refine CW.ret ?_; refine AQ.ret1 rfl rfl ?_; exact ⟨_, hle, rfl, hst⟩
end Go.Proofs.YtlmmpcdjkpibcaaX
namespace Go.Proofs.YtlmmpcdjkpibcaaX
set_option linter.unusedVariables false
set_option linter.unusedSimpArgs false
open Go Go.RowKit
variable {w0 w : World} {I : Imm} {L : Own} {P : Program} {l : Env} {ty : TypeId}
theorem extract_list {s : ByteArray} {i j : Nat} : (s.extract i j).toList = (s.toList.drop i).take (j - i) := by
  rw [ByteArray.toList_eq, ByteArray.toList_eq, ByteArray.data_extract, Array.toList_extract]
def goL (l : List UInt8) : Bool := decide (0 < l.length) && decide ((l.getD 0 0).toNat ≤ 32)
def goR (l : List UInt8) : Bool := decide (0 < l.length) && decide ((l.getD (l.length - 1) 0).toNat ≤ 32)
theorem trimL_go {l : List UInt8} (h : goL l = true) : trimL (l.drop 1) = trimL l := by
  unfold goL at h
  match l, h with
  | [], h => simp at h
  | c :: r, h =>
    have hc : c.toNat ≤ 32 := by simpa using h
    show _ = trimL (c :: r)
    unfold trimL; rw [List.dropWhile_cons, if_pos (by simpa using hc)]
    rfl
theorem trimL_stop {l : List UInt8} (h : goL l = false) : trimL l = l := by
  unfold goL at h
  match l, h with
  | [], _ => rfl
  | c :: r, h =>
    have hc : ¬ c.toNat ≤ 32 := by simpa using h
    unfold trimL; rw [List.dropWhile_cons, if_neg (by simpa using hc)]
theorem trimR_go {l : List UInt8} (h : goR l = true) : trimR (l.take (l.length - 1)).length (l.take (l.length - 1)) = trimR l.length l := by
  unfold goR at h
  simp only [Bool.and_eq_true, decide_eq_true_eq] at h
  have e : (l.take (l.length - 1)).length = l.length - 1 := by rw [List.length_take]; omega
  rw [e]; obtain ⟨n, hn⟩ : ∃ n, l.length = n + 1 := ⟨l.length - 1, by omega⟩; rw [hn]
  show _ = if _ then _ else _
  rw [if_pos h, hn, Nat.add_sub_cancel]
theorem trimR_stop {n : Nat} {l : List UInt8} (h : goR l = false) : trimR n l = l := by
  unfold goR at h
  match n with
  | 0 => rfl
  | n + 1 =>
    show (if _ then _ else _) = _
    rw [if_neg]; intro h2; rw [decide_eq_true h2.1, decide_eq_true h2.2] at h
    cases h
theorem trimR_le : ∀ (n : Nat) (l : List UInt8), l.length ≤ n → trimR n l = trimR l.length l
  | 0, l, h => by
    have : l.length = 0 := by omega
    rw [this]
  | n + 1, l, h => by
    cases hg : goR l with
    | false => rw [trimR_stop hg, trimR_stop hg]
    | true =>
      rw [← trimR_go hg]; have h2 := hg; unfold goR at h2
      simp only [Bool.and_eq_true, decide_eq_true_eq] at h2
      show (if _ then _ else _) = _
      rw [if_pos h2, trimR_le n _ (by rw [List.length_take]; omega)]
theorem trimB_of {t s : List UInt8} (h : goL t = false) (h2 : trimL t = trimL s) (hl : t.length ≤ s.length) : trimR t.length t = trimB s := by
  rw [trimL_stop h] at h2; unfold trimB; rw [← h2, trimR_le s.length t hl]
theorem safe_fin : ∀ r : Nat, r < 127 → safeR r = (decide (33 ≤ r) && (decide (r ≠ 34) && (decide (r ≠ 96) && (decide (r ≠ 35) && (decide (r ≠ 60) && (decide (r ≠ 62) && (decide (r ≠ 63) && (decide (r ≠ 123) && decide (r ≠ 125))))))))) := by decide +kernel
theorem bad_1 {r : Nat} (h : (r : Int) < 33 ∨ (r : Int) > 126 ∨ (r : Int) = 34 ∨ (r : Int) = 96 ∨ (r : Int) = 35 ∨ (r : Int) = 60 ∨ (r : Int) = 62 ∨ (r : Int) = 63 ∨ (r : Int) = 123) : true = !safeR r := by
  by_cases h1 : r < 127
  · rw [safe_fin r h1]
    rcases h with h | h | h | h | h | h | h | h | h
    · rw [decide_eq_false (show ¬ 33 ≤ r by omega)]; rfl
    · omega
    all_goals
      obtain rfl : r = _ := Int.ofNat_inj.1 h
      decide
  · rw [← safe_2 (by omega)]
    rfl
theorem bad_2 {r : Nat} (h0 : ¬ (r : Int) < 33) (h1 : ¬ (r : Int) > 126) (h2 : ¬ (r : Int) = 34) (h3 : ¬ (r : Int) = 96) (h4 : ¬ (r : Int) = 35) (h5 : ¬ (r : Int) = 60) (h6 : ¬ (r : Int) = 62) (h7 : ¬ (r : Int) = 63) (h8 : ¬ (r : Int) = 123) : decide ((r : Int) = 125) = !safeR r := by
  rw [safe_fin r (by omega), decide_eq_true (show 33 ≤ r by omega), decide_eq_true (show r ≠ 34 by omega), decide_eq_true (show r ≠ 96 by omega), decide_eq_true (show r ≠ 35 by omega), decide_eq_true (show r ≠ 60 by omega), decide_eq_true (show r ≠ 62 by omega), decide_eq_true (show r ≠ 63 by omega), decide_eq_true (show r ≠ 123 by omega)]
  simp only [Bool.true_and]
  by_cases h9 : r = 125
  · rw [decide_eq_true (show (r : Int) = 125 by omega), decide_eq_false (show ¬ r ≠ 125 by omega)]; rfl
  · rw [decide_eq_false (show ¬ (r : Int) = 125 by omega), decide_eq_true (show r ≠ 125 by omega)]; rfl
theorem safe_small {r : Nat} (h : safeR r = true) : r ≤ 126 := by
  unfold safeR at h
  simp at h
  omega
theorem hex_cut : ∀ n : Nat, n < 16 → hexS.extract n (n + 1) = strOf [hexD n] := by decide +kernel
theorem runs_hexSl {t : TypeId} {x y y' : Operand} {k k' : IntKind} {n : Nat} {lo hi : Int} (ht : P.underlying t = some .string) (hx : ev l x = some (.string hexS)) (hy : ev l y = some (.int k lo)) (hy' : ev l y' = some (.int k' hi)) (hlo : lo = (n : Int)) (hhi : hi = (n : Int) + 1) (hn : n < 16) :
    Runs P (.slice t x (some y) (some y') none) ty l w (.value (.string (strOf [hexD n]))) w := by
  subst hlo hhi; have h := runs_sliceS_lh (w := w) (ty := ty) ht hx hy hy' (by show 0 ≤ (n : Int) ∧ (n : Int) ≤ n + 1 ∧ (n : Int) + 1 ≤ ((16 : Nat) : Int); omega); rw [Int.toNat_natCast, show ((n : Int) + 1).toNat = n + 1 by omega, hex_cut n hn] at h; exact h
theorem strOf_app (a b : List UInt8) : strOf a ++ strOf b = strOf (a ++ b) := by
  apply ByteArray.ext
  simp [strOf]
theorem strOf_of (s : ByteArray) : strOf s.toList = s := by rw [ByteArray.toList_eq]; rfl
theorem enc_str (r : Int) : Utf8.encode r = strOf (encL r) := (strOf_of _).symm
end Go.Proofs.YtlmmpcdjkpibcaaX
namespace Go.Proofs.YtlmmpcdjkpibcaaX
set_option linter.unusedVariables false
set_option linter.unusedSimpArgs false
open Go Go.RowKit
theorem strOfE (s : ByteArray) : strOf s.toList = s := by rw [ByteArray.toList_eq]; rfl
theorem extractE (s : ByteArray) (i j : Nat) : s.extract i j = strOf ((s.toList.drop i).take (j - i)) := by rw [← extract_list, strOfE]
theorem strOfZ (l : List UInt8) : (strOf l).size = l.length := by rw [← size_toList, strOf_toList]
theorem emptyL : (ByteArray.mk #[]).toList = [] := by rw [ByteArray.toList_eq]
theorem takeE_more {α : Type} {p : α → Prop} {xs : List α} {k : Nat} (h : ∀ x ∈ xs.take k, p x) (hk : k < xs.length) (hp : p xs[k]) : ∀ x ∈ xs.take (k + 1), p x := by
  intro x hx; rw [List.take_add_one, List.getElem?_eq_getElem hk] at hx
  rcases List.mem_append.1 hx with hx | hx
  · exact h x hx
  · simp at hx
    subst hx; exact hp
theorem get_getD {l : List UInt8} {k : Nat} (h : k < l.length) : l.getD k 0 = l[k] := by
  rw [List.getD_eq_getElem?_getD, List.getElem?_eq_getElem h]
  rfl
theorem strOf_append (a b : List UInt8) : strOf a ++ strOf b = strOf (a ++ b) := by
  apply ByteArray.ext
  rw [ByteArray.data_append]
  simp [strOf]
def stopK (st l : List UInt8) : Nat := l.findIdx (fun c => st.contains c)
def untilL (st l : List UInt8) : List UInt8 × List UInt8 := (l.take (stopK st l), l.drop (stopK st l))
theorem untilL_no {st l : List UInt8} (h : ∀ x ∈ l, st.contains x = false) : untilL st l = (l, []) := by
  have hk : stopK st l = l.length := by
    unfold stopK; rw [List.findIdx_eq_length]; intro x hx; rw [h x hx]
  unfold untilL; rw [hk, List.take_length, List.drop_length]
theorem stopK_at {st a b : List UInt8} {c : UInt8} (h : ∀ x ∈ a, st.contains x = false) (hc : st.contains c = true) : stopK st (a ++ c :: b) = a.length := by
  unfold stopK
  induction a with
  | nil =>
    rw [List.nil_append, List.findIdx_cons, hc]
    rfl
  | cons x r ih =>
    rw [List.cons_append, List.findIdx_cons, h x (by simp), cond_false, ih (fun y hy => h y (List.mem_cons_of_mem _ hy))]
    rfl
theorem untilL_at {st a b : List UInt8} {c : UInt8} (h : ∀ x ∈ a, st.contains x = false) (hc : st.contains c = true) : untilL st (a ++ c :: b) = (a, c :: b) := by
  unfold untilL; rw [stopK_at h hc, List.take_left, List.drop_left]
theorem untilL_len (st l : List UInt8) : (untilL st l).1.length ≤ l.length ∧ (untilL st l).2.length ≤ l.length := by
  unfold untilL; exact ⟨by rw [List.length_take]; omega, by rw [List.length_drop]; omega⟩
theorem untilL_get {st l : List UInt8} {k : Nat} (hk : k < l.length) (h : ∀ x ∈ l.take k, st.contains x = false) (hc : st.contains l[k] = true) : untilL st l = (l.take k, l.drop k) := by
  have e : l = l.take k ++ l[k] :: l.drop (k + 1) := by rw [← List.drop_eq_getElem_cons hk, List.take_append_drop]
  have h2 := untilL_at (b := l.drop (k + 1)) h hc; rw [← e] at h2; rw [h2, ← List.drop_eq_getElem_cons hk]
end Go.Proofs.YtlmmpcdjkpibcaaX
