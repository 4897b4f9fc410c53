/- The disk: what it is, and what its functions come to, in plain words; how it lies in memory. -/
import Derived.Test.YthocicjjighbnaaM1
import Derived.Test.YthocicjjighbnaaXE
namespace Go.Proofs.YthocicjjighbnaaX
set_option linter.unusedVariables false
set_option linter.unusedSimpArgs false
open Go Go.RowKit
variable {w0 w : World} {I : Imm} {L : Own}

structure DS where
  secs : List (List UInt8)
  pend : List (Int × List UInt8)
  left : Int
  down : Bool
def wrow (p : Int × List UInt8) : List Value := .int .i64 p.1 :: p.2.map b8
def DOk (S : DS) : Prop := S.secs.length ≤ 1024 ∧ (∀ s ∈ S.secs, s.length = 32) ∧ (∀ p ∈ S.pend, p.2.length = 32 ∧ 0 ≤ p.1 ∧ p.1 < S.secs.length) ∧ -1 ≤ S.left ∧ S.left ≤ 9223372036854775807
def DiskO (d : Value) (S : DS) (Ld : Own) : Prop := ∃ hb vl vp Ls Lp, d = .pointer (some ⟨hb, 0, none⟩) ∧ Ld = (hb, .cells #[vl, vp, .int .i64 S.left, .bool S.down] 59) :: (Ls ++ Lp) ∧
  Grow 72 32 vl S.secs.length (S.secs.flatMap (·.map b8)) Ls ∧ Grow 74 33 vp S.pend.length (S.pend.flatMap wrow) Lp ∧ DOk S
theorem DiskO.opn {d : Value} {S : DS} {Ld : Own} (hd : DiskO d S Ld) (hst : St w0 w I (Ld ++ L)) : ∃ hb vl vp Ls Lp, d = .pointer (some ⟨hb, 0, none⟩) ∧
    St w0 w I ((hb, .cells #[vl, vp, .int .i64 S.left, .bool S.down] 59) :: (Ls ++ (Lp ++ L))) ∧ Grow 72 32 vl S.secs.length (S.secs.flatMap (·.map b8)) Ls ∧ Grow 74 33 vp S.pend.length (S.pend.flatMap wrow) Lp ∧ DOk S ∧
    ∀ {w : World} {I : Imm}, St w0 w I ((hb, .cells #[vl, vp, .int .i64 S.left, .bool S.down] 59) :: (Ls ++ (Lp ++ L))) → St w0 w I (Ld ++ L) := by
  obtain ⟨hb, vl, vp, Ls, Lp, rfl, rfl, h1, h2, h3⟩ := hd
  refine ⟨hb, vl, vp, Ls, Lp, rfl, ?_, h1, h2, h3, ?_⟩
  · simpa only [List.cons_append, List.append_assoc] using hst
  · intro w I h
    simpa only [List.cons_append, List.append_assoc] using h
theorem DiskO.shut {hb : Nat} {vl vp : Value} {S : DS} {Ls Lp : Own} (hst : St w0 w I ((hb, .cells #[vl, vp, .int .i64 S.left, .bool S.down] 59) :: (Ls ++ (Lp ++ L))))
    (h1 : Grow 72 32 vl S.secs.length (S.secs.flatMap (·.map b8)) Ls) (h2 : Grow 74 33 vp S.pend.length (S.pend.flatMap wrow) Lp) (h3 : DOk S) :
    ∃ Ld, St w0 w I (Ld ++ L) ∧ DiskO (.pointer (some ⟨hb, 0, none⟩)) S Ld :=
  ⟨(hb, .cells #[vl, vp, .int .i64 S.left, .bool S.down] 59) :: (Ls ++ Lp), by simpa only [List.cons_append, List.append_assoc] using hst, hb, vl, vp, Ls, Lp, rfl, rfl, h1, h2, h3⟩
theorem b8_all (bs : List UInt8) : (bs.map b8).all Value.oneCell' = true := by
  rw [List.all_eq_true]
  exact b8_one bs
theorem wrow_all (p : Int × List UInt8) : (wrow p).all Value.oneCell' = true := by
  unfold wrow
  rw [List.all_cons, b8_all]
  rfl
theorem wrow_len {p : Int × List UInt8} (h : p.2.length = 32) : (wrow p).length = 33 := by simp [wrow, h]
/-- Rows of like length, one behind the other. -/
theorem getElem?_rows {α β : Type} {f : α → List β} {size : Nat} : ∀ (xs : List α) (_ : ∀ a ∈ xs, (f a).length = size) (k j : Nat), j < size → (xs.flatMap f)[k * size + j]? = xs[k]?.bind fun a => (f a)[j]?
  | [], _, k, j, _ => by simp
  | a :: r, hf, 0, j, h => by
    rw [List.flatMap_cons, List.getElem?_append_left (by rw [hf a (List.mem_cons_self ..)]; omega)]
    simp
  | a :: r, hf, k + 1, j, h => by
    rw [List.flatMap_cons, List.getElem?_append_right (by rw [hf a (List.mem_cons_self ..), Nat.add_mul]; omega), hf a (List.mem_cons_self ..), show (k + 1) * size + j - size = k * size + j by rw [Nat.add_mul]; omega, getElem?_rows r (fun x hx => hf x (List.mem_cons_of_mem _ hx)) k j h]
    simp
theorem row_at {α β : Type} {f : α → List β} {size : Nat} {xs : List α} (hf : ∀ a ∈ xs, (f a).length = size) {k : Nat} {a : α} (ha : xs[k]? = some a) : ∀ (j : Nat) (u : β), (f a)[j]? = some u → (xs.flatMap f)[k * size + j]? = some u := by
  intro j u hj
  have hjl : j < size := by
    have := (List.getElem?_eq_some_iff.1 hj).1
    rwa [hf a (List.mem_of_getElem? ha)] at this
  rw [getElem?_rows xs hf k j hjl, ha]
  exact hj
theorem rows_set {α β : Type} {f : α → List β} {size : Nat} : ∀ (xs : List α) (_ : ∀ a ∈ xs, (f a).length = size) (k : Nat) (a : α), k < xs.length → (f a).length = size → (xs.flatMap f).take (k * size) ++ f a ++ (xs.flatMap f).drop (k * size + (f a).length) = (xs.set k a).flatMap f
  | [], _, k, a, h, _ => by simp at h
  | b :: r, hf, 0, a, h, ha => by
    rw [ha, Nat.zero_mul, Nat.zero_add, List.flatMap_cons, List.take_zero, List.nil_append, List.drop_left' (hf b (List.mem_cons_self ..)), List.set_cons_zero, List.flatMap_cons]
  | b :: r, hf, k + 1, a, h, ha => by
    have ih := rows_set r (fun x hx => hf x (List.mem_cons_of_mem _ hx)) k a (by simpa using h) ha
    have hb := hf b (List.mem_cons_self ..)
    rw [List.flatMap_cons, List.set_cons_succ, List.flatMap_cons, ← ih, show (k + 1) * size = (f b).length + k * size by rw [hb, Nat.add_mul]; omega, List.take_length_add_append, Nat.add_assoc, List.drop_length_add_append]
    simp only [List.append_assoc]
/-- What stands against something at a place. -/
def mayR (S : DS) (at_ : Int) : Int := if S.down = true then 8 else if at_ < 0 ∨ (S.secs.length : Int) ≤ at_ then 9 else 0
def readTo (S : DS) (at_ : Int) (k : Nat) : List UInt8 := (S.pend.take k).foldl (fun b p => if p.1 = at_ then p.2 else b) (S.secs.getD at_.toNat [])
def readR (S : DS) (at_ : Int) : List UInt8 := S.pend.foldl (fun b p => if p.1 = at_ then p.2 else b) (S.secs.getD at_.toNat [])
theorem mayR_ok {S : DS} {a : Int} (h : mayR S a = 0) : S.down = false ∧ 0 ≤ a ∧ a < S.secs.length := by
  unfold mayR at h
  split at h
  · cases h
  · split at h
    · cases h
    · exact ⟨by simpa using ‹¬ S.down = true›, by omega, by omega⟩
theorem readTo_next {S : DS} {a : Int} {k : Nat} {p : Int × List UInt8} (h : S.pend[k]? = some p) : readTo S a (k + 1) = if p.1 = a then p.2 else readTo S a k := by
  unfold readTo
  rw [List.take_add_one, h, Option.toList_some, List.foldl_append]
  rfl
theorem readTo_end {S : DS} {a : Int} {k : Nat} (h : S.pend.length ≤ k) : readTo S a k = readR S a := by
  unfold readTo readR
  rw [List.take_of_length_le h]
theorem sec_len {S : DS} (h : DOk S) {a : Int} (h0 : 0 ≤ a) (h1 : a < S.secs.length) : (S.secs.getD a.toNat []).length = 32 := by
  have hi : a.toNat < S.secs.length := by omega
  rw [List.getD_eq_getElem?_getD, List.getElem?_eq_getElem hi, Option.getD_some]
  exact h.2.1 _ (List.getElem_mem _)
theorem readTo_len {S : DS} (h : DOk S) {a : Int} (h0 : 0 ≤ a) (h1 : a < S.secs.length) : ∀ k, (readTo S a k).length = 32
  | 0 => sec_len h h0 h1
  | k + 1 => by
    cases hp : S.pend[k]? with
    | none =>
      have hl : S.pend.length ≤ k := by rw [List.getElem?_eq_none_iff] at hp; exact hp
      rw [readTo_end (by omega), ← readTo_end hl]
      exact readTo_len h h0 h1 k
    | some p =>
      rw [readTo_next hp]
      split
      · exact (h.2.2.1 p (List.mem_of_getElem? hp)).1
      · exact readTo_len h h0 h1 k
def writeR (S : DS) (at_ : Int) (b : List UInt8) : DS × Int :=
  if mayR S at_ ≠ 0 then (S, mayR S at_) else if b.length ≠ 32 then (S, 1) else if S.left = 0 then ({ S with down := true }, 8) else
  ({ S with left := if S.left - 1 > -1 then S.left - 1 else -1, pend := S.pend ++ [(at_, b)] }, 0)
def flushTo (S : DS) (k : Nat) : List (List UInt8) := (S.pend.take k).foldl (fun s p => s.set p.1.toNat p.2) S.secs
def flushR (S : DS) : DS × Int := if S.down = true then (S, 8) else ({ S with secs := S.pend.foldl (fun s p => s.set p.1.toNat p.2) S.secs, pend := [] }, 0)
theorem flushTo_next {S : DS} {k : Nat} {p : Int × List UInt8} (h : S.pend[k]? = some p) : flushTo S (k + 1) = (flushTo S k).set p.1.toNat p.2 := by
  unfold flushTo
  rw [List.take_add_one, h, Option.toList_some, List.foldl_append]
  rfl
theorem fold_set {α : Type} {g : α → Nat} {f : α → List (List UInt8) → List UInt8} {n : Nat} : ∀ (ps : List α) (s : List (List UInt8)), s.length = n → (∀ x ∈ s, x.length = 32) → (∀ p ∈ ps, ∀ s : List (List UInt8), s.length = n → (∀ x ∈ s, x.length = 32) → (f p s).length = 32) →
    (ps.foldl (fun s p => s.set (g p) (f p s)) s).length = n ∧ ∀ x ∈ ps.foldl (fun s p => s.set (g p) (f p s)) s, x.length = 32
  | [], s, h1, h2, _ => ⟨h1, h2⟩
  | p :: ps, s, h1, h2, h3 => by
    rw [List.foldl_cons]
    refine fold_set ps _ (by rw [List.length_set]; exact h1) ?_ (fun q hq => h3 q (List.mem_cons_of_mem _ hq))
    intro x hx
    rcases List.mem_or_eq_of_mem_set hx with h | rfl
    · exact h2 x h
    · exact h3 p (List.mem_cons_self ..) s h1 h2
theorem flushTo_ok {S : DS} (h : DOk S) (k : Nat) : (flushTo S k).length = S.secs.length ∧ ∀ x ∈ flushTo S k, x.length = 32 :=
  fold_set (g := fun p : Int × List UInt8 => p.1.toNat) (f := fun p _ => p.2) (S.pend.take k) S.secs rfl h.2.1 (fun p hp _ _ _ => (h.2.2.1 p (List.mem_of_mem_take hp)).1)
def keptR (how : Int) : Int := if how = 1 then 16 else if how = 2 then 32 else 0
def keepN (ks : List Int) (i : Nat) : Nat := if i < ks.length then (keptR (ks.getD i 0)).toNat else 0
theorem keepN_le (ks : List Int) (i : Nat) : keepN ks i ≤ 32 := by
  unfold keepN keptR
  (repeat' split) <;> decide
def tornR (ks : List Int) (x : (Int × List UInt8) × Nat) (s : List (List UInt8)) : List UInt8 := x.1.2.take (keepN ks x.2) ++ (s.getD x.1.1.toNat []).drop (keepN ks x.2)
def crashTo (S : DS) (ks : List Int) (k : Nat) : List (List UInt8) := (S.pend.zipIdx.take k).foldl (fun s x => s.set x.1.1.toNat (tornR ks x s)) S.secs
def crashR (S : DS) (ks : List Int) : DS := { secs := S.pend.zipIdx.foldl (fun s x => s.set x.1.1.toNat (tornR ks x s)) S.secs, pend := [], left := -1, down := false }
theorem crashTo_next {S : DS} {ks : List Int} {k : Nat} {p : Int × List UInt8} (h : S.pend[k]? = some p) : crashTo S ks (k + 1) = (crashTo S ks k).set p.1.toNat (tornR ks (p, k) (crashTo S ks k)) := by
  unfold crashTo
  have h2 : S.pend.zipIdx[k]? = some (p, k) := by rw [List.getElem?_zipIdx, h]; simp
  rw [List.take_add_one, h2, Option.toList_some, List.foldl_append]
  rfl
theorem crashTo_ok {S : DS} (h : DOk S) (ks : List Int) (k : Nat) : (crashTo S ks k).length = S.secs.length ∧ ∀ x ∈ crashTo S ks k, x.length = 32 := by
  refine fold_set (g := fun x : (Int × List UInt8) × Nat => x.1.1.toNat) (f := fun x s => tornR ks x s) (S.pend.zipIdx.take k) S.secs rfl h.2.1 (fun x hx s hs1 hs2 => ?_)
  have hm : x.1 ∈ S.pend := by
    have := List.mem_of_mem_take hx
    obtain ⟨i, hi⟩ := List.getElem?_of_mem this
    rw [List.getElem?_zipIdx] at hi
    cases hp : S.pend[i]? with
    | none => rw [hp] at hi; cases hi
    | some q => rw [hp] at hi; simp at hi; rw [← hi]; exact List.mem_of_getElem? hp
  obtain ⟨h1, h2, h3⟩ := h.2.2.1 x.1 hm
  have h4 : (s.getD x.1.1.toNat []).length = 32 := by
    have hi : x.1.1.toNat < s.length := by rw [hs1]; omega
    rw [List.getD_eq_getElem?_getD, List.getElem?_eq_getElem hi, Option.getD_some]
    exact hs2 _ (List.getElem_mem _)
  have := keepN_le ks x.2
  unfold tornR
  rw [List.length_append, List.length_take, List.length_drop, h1, h4]
  omega
theorem perm_in {α : Type} (x : α) (A B C : List α) : (x :: (A ++ (B ++ C))).Perm (B ++ (x :: (A ++ C))) :=
  ((List.perm_append_comm_assoc A B C).cons x).trans List.perm_middle.symm
theorem Grow.one {e : TypeId} {size n : Nat} {v : Value} {xs : List Value} {Lv : Own} (h : Grow e size v n xs Lv) : v.oneCell' = true := by
  obtain ⟨_, _, ⟨rfl, _, _⟩ | ⟨g, cap, cur, rfl, _⟩⟩ := h <;> rfl
theorem bfill_w {a : Int} {b : List UInt8} {places : List (Nat × Nat)} {zc : List Value} (hp : places = [(0, 1), (1, 32)]) (hz : zc.length = 33) (hb : b.length = 32) : bfill (places[·]?) zc [(0, .int .i64 a), (1, .agg (b.map b8).toArray)] = some (wrow (a, b)) := by
  subst hp
  match zc, hz with
  | z :: zs, hz =>
    have hz2 : zs.length = 32 := by simpa using hz
    have e1 : vcells (.agg (b.map b8).toArray) = b.map b8 := rfl
    have e2 : vcells (.int .i64 a) = [.int .i64 a] := rfl
    simp only [bfill, e1, e2, List.getElem?_cons_zero, List.getElem?_cons_succ, List.length_cons, List.length_nil, List.length_map, hb, hz2, List.take_zero, List.nil_append, List.drop_succ_cons, List.drop_zero, List.cons_append, List.take_succ_cons, Nat.zero_add]
    simp [hz2, wrow, hb]
end Go.Proofs.YthocicjjighbnaaX
