/- Plain: what writing, flushing, crashing does to sectors; a slot stored; rows written. No program in sight. -/
import Derived.Test.YthocicjjighbnaaG4
namespace Go.Proofs.YthocicjjighbnaaX
set_option linter.unusedVariables false
set_option linter.unusedSimpArgs false
open Go Go.RowKit

theorem getD_setL {α : Type} {s : List α} {i j : Nat} {x d : α} : (s.set i x).getD j d = if i = j ∧ i < s.length then x else s.getD j d := by
  rw [List.getD_eq_getElem?_getD, List.getD_eq_getElem?_getD, List.getElem?_set]
  by_cases h : i = j
  · subst h
    by_cases hl : i < s.length
    · simp [hl]
    · simp [hl]
  · simp [h]
/-- A sector of a list of them. -/
def secAt (X : List (List UInt8)) (p : Int) : List UInt8 := X.getD p.toNat []
theorem readR_nil {S : DS} (h : S.pend = []) (p : Int) : readR S p = secAt S.secs p := by
  unfold readR
  rw [h]
  rfl
theorem fold_read : ∀ (ps : List (Int × List UInt8)) (X : List (List UInt8)) (p : Int), 0 ≤ p → p < X.length → (∀ x ∈ ps, 0 ≤ x.1 ∧ x.1 < (X.length : Int)) → secAt (ps.foldl (fun s x => s.set x.1.toNat x.2) X) p = ps.foldl (fun b x => if x.1 = p then x.2 else b) (secAt X p)
  | [], X, p, _, _, _ => rfl
  | x :: r, X, p, h0, h1, hx => by
    have hx0 := hx x (List.mem_cons_self ..)
    rw [List.foldl_cons, List.foldl_cons, fold_read r (X.set x.1.toNat x.2) p h0 (by rw [List.length_set]; exact h1) (fun y hy => by rw [List.length_set]; exact hx y (List.mem_cons_of_mem _ hy))]
    congr 1
    unfold secAt
    rw [getD_setL]
    by_cases h : x.1 = p
    · rw [if_pos h, if_pos ⟨by omega, by omega⟩]
    · rw [if_neg h, if_neg (by omega)]
theorem flush_ok {S : DS} (h : S.down = false) : flushR S = ({ S with secs := S.pend.foldl (fun s p => s.set p.1.toNat p.2) S.secs, pend := [] }, 0) := by
  unfold flushR
  rw [if_neg (by rw [h]; decide)]
theorem flush_read {S : DS} (hd : S.down = false) (hp : ∀ x ∈ S.pend, 0 ≤ x.1 ∧ x.1 < (S.secs.length : Int)) {p : Int} (h0 : 0 ≤ p) (h1 : p < S.secs.length) : readR (flushR S).1 p = readR S p := by
  rw [flush_ok hd, readR_nil rfl]
  exact fold_read _ _ _ h0 h1 hp
/-! ### Sectors put one behind the other -/
theorem write_cases {S : DS} (hd : S.down = false) {a : Int} {b : List UInt8} (h0 : 0 ≤ a) (h1 : a < S.secs.length) (hb : b.length = 32) :
    (writeR S a b = ({ S with down := true }, 8) ∧ S.left = 0) ∨ ∃ l, writeR S a b = ({ S with pend := S.pend ++ [(a, b)], left := l }, 0) ∧ (S.left = -1 → l = -1) := by
  have hm := may_in hd h0 h1
  by_cases hl : S.left = 0
  · exact .inl ⟨by unfold writeR; rw [if_neg (by rw [hm]; decide), if_neg (by omega), if_pos hl], hl⟩
  · refine .inr ⟨_, write_ok hm hb hl, fun h => ?_⟩
    rw [h]
    decide
theorem put_any {S : DS} (hd : S.down = false) {at_ : Int} {f : Nat → List UInt8} {n : Nat} (h0 : 0 ≤ at_) (h1 : at_ + n ≤ S.secs.length) (hf : ∀ k, k < n → (f k).length = 32) : ∀ k, k ≤ n → (∀ j, j < k → putE S at_ f j = 0) → ∃ l, putTo S at_ f k = { S with pend := S.pend ++ putP at_ f k, left := l } ∧ (S.left = -1 → l = -1)
  | 0, _, _ => ⟨S.left, by show S = _; simp [putP], id⟩
  | k + 1, hk, hz => by
    obtain ⟨l, ih, hl⟩ := put_any hd h0 h1 hf k (by omega) (fun j hj => hz j (by omega))
    have he := hz k (by omega)
    unfold putE at he
    rw [ih] at he
    rcases write_cases (S := { S with pend := S.pend ++ putP at_ f k, left := l }) hd (a := at_ + (k : Int)) (b := f k) (by omega) (by show at_ + (k : Int) < S.secs.length; omega) (hf k (by omega)) with ⟨h, _⟩ | ⟨l', h, hl'⟩
    · rw [h] at he; cases he
    · refine ⟨l', ?_, fun h => hl' (hl h)⟩
      show (writeR (putTo S at_ f k) (at_ + (k : Int)) (f k)).1 = _
      rw [ih, h]
      simp [putP, List.append_assoc]
/-- How putting them ends. -/
theorem put_endsL {S : DS} (hd : S.down = false) {at_ : Int} {f : Nat → List UInt8} {n : Nat} (h0 : 0 ≤ at_) (h1 : at_ + n ≤ S.secs.length) (hf : ∀ k, k < n → (f k).length = 32) {S' : DS} {next er : Int} (hp : PutEnds S at_ f n S' next er) :
    (∃ l, S' = { S with pend := S.pend ++ putP at_ f n, left := l } ∧ (S.left = -1 → l = -1) ∧ next = at_ + n ∧ er = 0) ∨
    ∃ k l, k < n ∧ S' = { S with pend := S.pend ++ putP at_ f k, left := l, down := true } ∧ S.left ≠ -1 ∧ er = 8 := by
  rcases hp with ⟨hz, h2, h3, h4⟩ | ⟨k, hk, hz, h2, h3, h4, h5⟩
  · obtain ⟨l, h, hl⟩ := put_any hd h0 h1 hf n (Nat.le_refl _) hz
    exact .inl ⟨l, by rw [h2, h], hl, h3, h4⟩
  · obtain ⟨l, h, hl⟩ := put_any hd h0 h1 hf k (by omega) hz
    have e1 : putTo S at_ f (k + 1) = (writeR (putTo S at_ f k) (at_ + (k : Int)) (f k)).1 := rfl
    unfold putE at h2 h5
    rcases write_cases (S := { S with pend := S.pend ++ putP at_ f k, left := l }) hd (a := at_ + (k : Int)) (b := f k) (by omega) (by show at_ + (k : Int) < S.secs.length; omega) (hf k (by omega)) with ⟨h', hl'⟩ | ⟨l', h', _⟩
    · rw [h, h'] at h5
      rw [h] at e1
      rw [h'] at e1
      refine .inr ⟨k, l, hk, by rw [h3, e1], fun hs => ?_, h5⟩
      have := hl hs
      have h'' : l = 0 := hl'
      omega
    · rw [h, h'] at h2
      exact absurd rfl h2
theorem putP_mem {at_ : Int} {f : Nat → List UInt8} : ∀ {n : Nat} {x : Int × List UInt8}, x ∈ putP at_ f n → ∃ k, k < n ∧ x = (at_ + (k : Int), f k)
  | 0, x, h => by cases h
  | n + 1, x, h => by
    rcases List.mem_append.1 (show x ∈ putP at_ f n ++ [(at_ + (n : Int), f n)] from h) with h | h
    · obtain ⟨k, hk, he⟩ := putP_mem h
      exact ⟨k, by omega, he⟩
    · exact ⟨n, by omega, by simpa using h⟩
/-! ### A crash -/
theorem crash_fold (P : Int → List UInt8 → Prop) (ks : List Int) : ∀ (xs : List ((Int × List UInt8) × Nat)) (X : List (List UInt8)), (∀ x ∈ xs, 0 ≤ x.1.1) → (∀ q, 0 ≤ q → q < (X.length : Int) → P q (secAt X q)) →
    (∀ x ∈ xs, ∀ c m, m = 0 ∨ m = 16 ∨ m = 32 → x.1.1 < (X.length : Int) → P x.1.1 c → P x.1.1 (x.1.2.take m ++ c.drop m)) →
    ∀ q, 0 ≤ q → q < (X.length : Int) → P q (secAt (xs.foldl (fun s x => s.set x.1.1.toNat (tornR ks x s)) X) q)
  | [], X, _, h1, _, q, h0, hl => h1 q h0 hl
  | x :: r, X, hx, h1, h2, q, h0, hl => by
    rw [List.foldl_cons]
    refine crash_fold P ks r _ (fun y hy => hx y (List.mem_cons_of_mem _ hy)) (fun q' hq0 hq1 => ?_) (fun y hy c m hm hlt hp => ?_) q h0 (by rw [List.length_set]; exact hl)
    · rw [List.length_set] at hq1
      unfold secAt
      rw [getD_setL]
      have hx0 := hx x (List.mem_cons_self ..)
      split
      · rename_i hc
        obtain rfl : x.1.1 = q' := by omega
        have hk : keepN ks x.2 = 0 ∨ keepN ks x.2 = 16 ∨ keepN ks x.2 = 32 := by
          unfold keepN keptR
          (repeat' split) <;> simp
        exact h2 x (List.mem_cons_self ..) _ _ hk hq1 (h1 _ hq0 hq1)
      · exact h1 q' hq0 hq1
    · rw [List.length_set] at hlt
      exact h2 y (List.mem_cons_of_mem _ hy) c m hm hlt hp
theorem zip_mem {α : Type} {l : List α} {x : α × Nat} (h : x ∈ l.zipIdx) : x.1 ∈ l := by
  obtain ⟨i, hi⟩ := List.getElem?_of_mem h
  rw [List.getElem?_zipIdx] at hi
  cases hp : l[i]? with
  | none => rw [hp] at hi; cases hi
  | some q => rw [hp] at hi; simp at hi; rw [← hi]; exact List.mem_of_getElem? hp
/-- What holds of each sector, and of what a torn write makes of it, holds of each sector behind a crash. -/
theorem crash_P {S : DS} (P : Int → List UInt8 → Prop) (ks : List Int) (hx : ∀ x ∈ S.pend, 0 ≤ x.1) (h1 : ∀ q, 0 ≤ q → q < (S.secs.length : Int) → P q (secAt S.secs q))
    (h2 : ∀ x ∈ S.pend, ∀ c m, m = 0 ∨ m = 16 ∨ m = 32 → x.1 < (S.secs.length : Int) → P x.1 c → P x.1 (x.2.take m ++ c.drop m)) {q : Int} (h0 : 0 ≤ q) (hl : q < (S.secs.length : Int)) : P q (secAt (crashR S ks).secs q) :=
  crash_fold P ks _ _ (fun x hm => hx x.1 (zip_mem hm)) h1 (fun x hm c m hc hlt hp => h2 x.1 (zip_mem hm) c m hc hlt hp) q h0 hl
theorem crash_ok {S : DS} (h : DOk S) (ks : List Int) : (crashR S ks).secs.length = S.secs.length ∧ ∀ x ∈ (crashR S ks).secs, x.length = 32 := by
  have := crashTo_ok h ks S.pend.zipIdx.length
  unfold crashTo at this
  rw [List.take_length] at this
  exact this
theorem crash_nil {S : DS} (h : S.pend = []) (ks : List Int) : (crashR S ks).secs = S.secs := by
  unfold crashR
  rw [h]
  rfl
/-! ### A slot stored -/
theorem store_cases {S : DS} (hd : S.down = false) (hp : S.pend = []) (hl : S.secs.length = 514) {s : Slot} (hm : mayM s.e s.n = true) (hn : 0 ≤ s.n) :
    (storeR S s = ({ S with down := true }, 8) ∧ S.left = 0) ∨ ∃ l, storeR S s = ({ S with secs := S.secs.set (s.n % 2).toNat (slotX s), pend := [], left := l }, 0) ∧ (S.left = -1 → l = -1) := by
  have ht : s.n.tmod 2 = s.n % 2 := Int.tmod_eq_emod_of_nonneg hn
  unfold storeR
  rw [if_neg (by rw [hm]; decide), ht]
  rcases write_cases hd (a := s.n % 2) (b := slotX s) (by omega) (by omega) (slotX_len s) with ⟨h, hl0⟩ | ⟨l, h, hl1⟩
  · rw [h]
    exact .inl ⟨if_pos (by show (8 : Int) ≠ 0; decide), hl0⟩
  · rw [h]
    refine .inr ⟨l, ?_, hl1⟩
    rw [if_neg (by simp)]
    dsimp only
    rw [flush_ok (S := { S with pend := S.pend ++ [(s.n % 2, slotX s)], left := l }) hd]
    dsimp only
    rw [hp]
    rfl
/-! ### Rows written -/
def RowsAt (S : DS) (e : Int) : Int → Int → List (List UInt8) → Prop
  | _, _, [] => True
  | at_, q, b :: r => Holds S at_ e q b ∧ RowsAt S e (at_ + (needN b.length : Nat)) (q + 1) r
theorem needS_cons (b : List UInt8) (r : List (List UInt8)) : needS (b :: r) = needN b.length + needS r := by simp [needS]
theorem RowsAt.marks {S : DS} {e : Int} : ∀ {bss : List (List UInt8)} {at_ q : Int}, RowsAt S e at_ q bss → ∀ p, at_ ≤ p → p < at_ + (needS bss : Nat) → ∃ q', q ≤ q' ∧ q' < q + (bss.length : Nat) ∧ epochOf (readR S p) = e ∧ seqOf (readR S p) = q' ∧ tlE (readR S p) = e ∧ tlQ (readR S p) = q'
  | [], at_, q, _, p, h1, h2 => by simp [needS] at h2; omega
  | b :: r, at_, q, h, p, h1, h2 => by
    rw [needS_cons] at h2
    by_cases hp : p < at_ + (needN b.length : Nat)
    · obtain ⟨k, rfl⟩ : ∃ k : Nat, p = at_ + (k : Int) := ⟨(p - at_).toNat, by omega⟩
      have hk : k < needN b.length := by omega
      have hs := seal_part h.1.1 h.1.2.1 hk
      rw [h.1.2.2 k hk]
      have h3 := seal_hd hs
      have h4 := seal_tl hs
      exact ⟨q, by omega, by rw [List.length_cons]; omega, h3.1, h3.2, h4.1, h4.2⟩
    · obtain ⟨q', h3, h4, h5⟩ := RowsAt.marks h.2 p (by omega) (by omega)
      exact ⟨q', by omega, by rw [List.length_cons]; omega, h5⟩
/-- How writing rows ends. -/
theorem wr_ends {e : Int} {S S' : DS} {at_ q a er : Int} {bss : List (List UInt8)} (h : WrR e S at_ q bss S' a er) : S.down = false → (∀ x ∈ S.pend, 0 ≤ x.1 ∧ x.1 < (S.secs.length : Int)) → (∀ b ∈ bss, needN b.length ≤ 255) → 0 ≤ at_ → at_ + (needS bss : Nat) ≤ S.secs.length → 0 ≤ e → e < 65536 → 0 ≤ q → q + (bss.length : Nat) ≤ 16777216 →
    (er = 0 ∧ a = at_ + (needS bss : Nat) ∧ S'.pend = [] ∧ S'.down = false ∧ (S.left = -1 → S'.left = -1) ∧ S'.secs.length = S.secs.length ∧ (∀ p : Int, 0 ≤ p → p < (S.secs.length : Int) → p < at_ ∨ a ≤ p → readR S' p = readR S p) ∧ RowsAt S' e at_ q bss) ∨
    (er = 8 ∧ S'.down = true ∧ S.left ≠ -1 ∧ S'.secs = S.secs ∧ ∃ ps, S'.pend = S.pend ++ ps ∧ ∀ x ∈ ps, at_ ≤ x.1 ∧ x.1 < at_ + (needS bss : Nat) ∧ x.2.length = 32 ∧ epochOf x.2 = e ∧ tlE x.2 = e) := by
  induction h with
  | nil =>
    rename_i S at_ q
    intro hd hp _ h0 hlen _ _ _ _
    have hf := flush_ok hd
    refine .inl ⟨by rw [hf], by simp [needS], by rw [hf], by rw [hf]; exact hd, by rw [hf]; exact id, by rw [hf]; exact flush_len _ _, fun p hp0 hp1 _ => flush_read hd hp hp0 hp1, trivial⟩
  | bad hfw hne =>
    rename_i S S' at_ q next er b bss
    intro hd hp hb h0 hlen he0 he1 hq0 hq1
    rw [List.length_cons] at hq1
    rw [needS_cons] at hlen ⊢
    have hm : mayM e q = true := by unfold mayM; simp only [Bool.and_eq_true, decide_eq_true_eq]; omega
    have hn := hb b (List.mem_cons_self ..)
    have hfw := hfw.out
    rw [if_neg (by rw [hm]; simp; omega), if_neg (by omega)] at hfw
    rcases put_endsL hd h0 (by omega) (fun k hk => secB_len hm hn hk) hfw with ⟨_, _, _, _, h⟩ | ⟨k, l, hk, rfl, hl, rfl⟩
    · exact absurd h hne
    · refine .inr ⟨rfl, rfl, hl, rfl, _, rfl, fun x hx => ?_⟩
      obtain ⟨j, hj, rfl⟩ := putP_mem hx
      have hs := seal_part hm hn (k := j) (by omega)
      exact ⟨by dsimp only; omega, by dsimp only; omega, secB_len hm hn (by omega), (seal_hd hs).1, (seal_tl hs).1⟩
  | step hfw hwr ih =>
    rename_i S S1 S' at_ q next a er b bss
    intro hd hp hb h0 hlen he0 he1 hq0 hq1
    rw [List.length_cons] at hq1
    rw [needS_cons] at hlen ⊢
    have hm : mayM e q = true := by unfold mayM; simp only [Bool.and_eq_true, decide_eq_true_eq]; omega
    have hn := hb b (List.mem_cons_self ..)
    have hfw := hfw.out
    rw [if_neg (by rw [hm]; simp; omega), if_neg (by omega)] at hfw
    rcases put_endsL hd h0 (by omega) (fun k hk => secB_len hm hn hk) hfw with ⟨l, rfl, hl, rfl, _⟩ | ⟨k, l, hk, rfl, hl, h⟩
    · have hp1 : ∀ x ∈ S.pend ++ putP at_ (secB e q b) (needN b.length), 0 ≤ x.1 ∧ x.1 < (S.secs.length : Int) := fun x hx => by
        rcases List.mem_append.1 hx with hx | hx
        · exact hp x hx
        · obtain ⟨j, hj, rfl⟩ := putP_mem hx
          dsimp only
          omega
      have hin : ∀ k : Nat, k < needN b.length → readR { S with pend := S.pend ++ putP at_ (secB e q b) (needN b.length), left := l } (at_ + (k : Int)) = secB e q b k := fun k hk => read_in (S := { S with left := l }) hk
      have hout : ∀ p : Int, p < at_ ∨ at_ + (needN b.length : Nat) ≤ p → readR { S with pend := S.pend ++ putP at_ (secB e q b) (needN b.length), left := l } p = readR S p := fun p hp => read_out (S := { S with left := l }) hp
      rcases ih hd hp1 (fun c hc => hb c (List.mem_cons_of_mem _ hc)) (by omega) (by show at_ + (needN b.length : Nat) + (needS bss : Nat) ≤ (S.secs.length : Int); omega) he0 he1 (by omega) (by omega) with ⟨i1, i2, i3, i4, i5, i6, i7, i8⟩ | ⟨i1, i2, i3, i4, ps, i5, i6⟩
      · refine .inl ⟨i1, by omega, i3, i4, fun h => i5 (hl h), i6, fun p hp0 hp1 hp => ?_, ?_, i8⟩
        · rw [i7 p hp0 hp1 (by omega), hout p (by omega)]
        · refine ⟨hm, hn, fun k hk => ?_⟩
          rw [i7 _ (by omega) (by show at_ + (k : Int) < (S.secs.length : Int); omega) (by omega), hin k hk]
      · refine .inr ⟨i1, i2, fun h => i3 (hl h), i4, putP at_ (secB e q b) (needN b.length) ++ ps, by rw [i5]; exact List.append_assoc .., fun x hx => ?_⟩
        rcases List.mem_append.1 hx with hx | hx
        · obtain ⟨j, hj, rfl⟩ := putP_mem hx
          have hs := seal_part hm hn hj
          exact ⟨by dsimp only; omega, by dsimp only; omega, secB_len hm hn hj, (seal_hd hs).1, (seal_tl hs).1⟩
        · have := i6 x hx
          exact ⟨by omega, by omega, this.2.2⟩
    · cases h
end Go.Proofs.YthocicjjighbnaaX
