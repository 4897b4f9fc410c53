/- Records written are read: in plain words. Own lemmas, no program in sight. -/
import Derived.Test.YthocicjjighbnaaR4
import Derived.Test.YthocicjjighbnaaM6
namespace Go.Proofs.YthocicjjighbnaaX
set_option linter.unusedVariables false
set_option linter.unusedSimpArgs false
open Go Go.RowKit

def putP (at_ : Int) (f : Nat → List UInt8) : Nat → List (Int × List UInt8)
  | 0 => []
  | k + 1 => putP at_ f k ++ [(at_ + (k : Int), f k)]
theorem putP_len (at_ : Int) (f : Nat → List UInt8) : ∀ k, (putP at_ f k).length = k
  | 0 => rfl
  | k + 1 => by
    show (putP at_ f k ++ [_]).length = _
    rw [List.length_append, putP_len at_ f k]
    rfl
/-- A disk with power, without a limit. -/
def Up (S : DS) : Prop := S.down = false ∧ S.left = -1
theorem put_step {S : DS} (hu : Up S) {a : Int} {b : List UInt8} (h0 : 0 ≤ a) (h1 : a < S.secs.length) (hb : b.length = 32) : writeR S a b = ({ S with pend := S.pend ++ [(a, b)] }, 0) := by
  rw [write_ok (may_in hu.1 h0 h1) hb (by rw [hu.2]; decide)]
  rw [hu.2]
  obtain ⟨secs, pend, left, down⟩ := S
  have := hu.2
  dsimp only at this ⊢
  subst this
  rfl
theorem put_ok {S : DS} (hu : Up S) {at_ : Int} {f : Nat → List UInt8} {n : Nat} (h0 : 0 ≤ at_) (h1 : at_ + n ≤ S.secs.length) (hf : ∀ k, k < n → (f k).length = 32) : ∀ k, k ≤ n → putTo S at_ f k = { S with pend := S.pend ++ putP at_ f k }
  | 0, _ => by
    show S = _
    simp [putP]
  | k + 1, hk => by
    have ih := put_ok hu h0 h1 hf k (by omega)
    show (writeR (putTo S at_ f k) (at_ + k) (f k)).1 = _
    rw [ih, put_step (S := { S with pend := S.pend ++ putP at_ f k }) hu (by omega) (by show at_ + (k : Int) < S.secs.length; omega) (hf k (by omega))]
    simp [putP, List.append_assoc]
theorem putE_ok {S : DS} (hu : Up S) {at_ : Int} {f : Nat → List UInt8} {n : Nat} (h0 : 0 ≤ at_) (h1 : at_ + n ≤ S.secs.length) (hf : ∀ k, k < n → (f k).length = 32) {k : Nat} (hk : k < n) : putE S at_ f k = 0 := by
  unfold putE
  rw [put_ok hu h0 h1 hf k (by omega), put_step (S := { S with pend := S.pend ++ putP at_ f k }) hu (by omega) (by show at_ + (k : Int) < S.secs.length; omega) (hf k hk)]
theorem put_ends {S : DS} (hu : Up S) {at_ : Int} {f : Nat → List UInt8} {n : Nat} (h0 : 0 ≤ at_) (h1 : at_ + n ≤ S.secs.length) (hf : ∀ k, k < n → (f k).length = 32) {S' : DS} {next er : Int} (hp : PutEnds S at_ f n S' next er) : S' = { S with pend := S.pend ++ putP at_ f n } ∧ next = at_ + n ∧ er = 0 := by
  rcases hp with ⟨_, h2, h3, h4⟩ | ⟨k, hk, _, h2, _⟩
  · exact ⟨by rw [h2, put_ok hu h0 h1 hf n (Nat.le_refl _)], h3, h4⟩
  · exact absurd (putE_ok hu h0 h1 hf hk) h2
theorem fold_in {at_ : Int} {f : Nat → List UInt8} {p : Int} {b0 : List UInt8} : ∀ (n j : Nat), j < n → p = at_ + (j : Int) → (putP at_ f n).foldl (fun b x => if x.1 = p then x.2 else b) b0 = f j
  | 0, j, h, _ => absurd h (Nat.not_lt_zero _)
  | n + 1, j, h, hp => by
    show (putP at_ f n ++ [_]).foldl _ b0 = _
    rw [List.foldl_append]
    show (if at_ + (n : Int) = p then f n else _) = f j
    by_cases hj : j = n
    · subst hj
      rw [if_pos hp.symm]
    · rw [if_neg (by omega)]
      exact fold_in n j (by omega) hp
theorem fold_out {at_ : Int} {f : Nat → List UInt8} {p : Int} {b0 : List UInt8} : ∀ (n : Nat), p < at_ ∨ at_ + (n : Int) ≤ p → (putP at_ f n).foldl (fun b x => if x.1 = p then x.2 else b) b0 = b0
  | 0, _ => rfl
  | n + 1, hp => by
    show (putP at_ f n ++ [_]).foldl _ b0 = _
    rw [List.foldl_append]
    show (if at_ + (n : Int) = p then f n else _) = b0
    rw [if_neg (by omega)]
    exact fold_out n (by omega)
theorem read_in {S : DS} {at_ : Int} {f : Nat → List UInt8} {n j : Nat} (hj : j < n) : readR { S with pend := S.pend ++ putP at_ f n } (at_ + (j : Int)) = f j := by
  unfold readR
  rw [List.foldl_append]
  exact fold_in n j hj rfl
theorem read_out {S : DS} {at_ p : Int} {f : Nat → List UInt8} {n : Nat} (hp : p < at_ ∨ at_ + (n : Int) ≤ p) : readR { S with pend := S.pend ++ putP at_ f n } p = readR S p := by
  unfold readR
  rw [List.foldl_append]
  exact fold_out n hp
theorem secB_len {e q : Int} {b : List UInt8} (hm : mayM e q = true) (hn : needN b.length ≤ 255) {k : Nat} (hk : k < needN b.length) : (secB e q b k).length = 32 := sealB_length (partB_len b k)
theorem secB_open {e q : Int} {b : List UInt8} (hm : mayM e q = true) (hn : needN b.length ≤ 255) {k : Nat} (hk : k < needN b.length) : openR (secB e q b k) = ⟨e, q, (k : Int), (needN b.length : Nat), partB b k, 0⟩ := openR_sealB (seal_part hm hn hk)
theorem need_room (n : Nat) : n + 4 ≤ 19 * needN n ∧ 19 * needN n < n + 23 ∧ 1 ≤ needN n := by
  unfold needN
  omega
/-- Sectors that hold a record. -/
def Holds (S : DS) (at_ e q : Int) (b : List UInt8) : Prop := mayM e q = true ∧ needN b.length ≤ 255 ∧ ∀ k, k < needN b.length → readR S (at_ + (k : Int)) = secB e q b k
theorem Holds.o {S : DS} {at_ e q : Int} {b : List UInt8} (h : Holds S at_ e q b) {k : Nat} (hk : k < needN b.length) : oAt S at_ k = ⟨e, q, (k : Int), (needN b.length : Nat), partB b k, 0⟩ := by
  unfold oAt
  rw [h.2.2 k hk]
  exact secB_open h.1 h.2.1 hk
theorem Holds.ok {S : DS} {at_ e q : Int} {b : List UInt8} (h : Holds S at_ e q b) {k : Nat} (hk : k < needN b.length) : okP S at_ k := by
  have hr := need_room b.length
  have h0 := h.o (k := 0) (by omega)
  unfold okP
  rw [h.o hk, h0]
  refine ⟨rfl, rfl, rfl, rfl, ?_⟩
  rintro ⟨h1, h2⟩
  dsimp only at h1 h2
  have : (partB b k).length = 19 := by
    unfold partB
    rw [List.length_take, List.length_drop, wholeB_len]
    omega
  omega
theorem Holds.g {S : DS} {at_ e q : Int} {b : List UInt8} (h : Holds S at_ e q b) : ∀ k, k ≤ needN b.length → gB S at_ k = (wholeB b).take (19 * k)
  | 0, _ => by simp [gB]
  | k + 1, hk => by
    show gB S at_ k ++ (oAt S at_ k).b = _
    rw [h.g k (by omega), h.o (by omega)]
    show (wholeB b).take (19 * k) ++ partB b k = _
    unfold partB
    rw [Nat.mul_add, List.take_add]
theorem Holds.all {S : DS} {at_ e q : Int} {b : List UInt8} (h : Holds S at_ e q b) : gB S at_ (needN b.length) = wholeB b := by
  have hr := need_room b.length
  rw [h.g _ (Nat.le_refl _), List.take_of_length_le (by rw [wholeB_len]; omega)]
theorem Holds.gather {S : DS} {at_ e q : Int} {b : List UInt8} (h : Holds S at_ e q b) (hd : S.down = false) {end_ : Int} (he : at_ + (needN b.length : Nat) ≤ end_) {ge gq parts ger : Int} {gb : List UInt8} (hg : GatherR S at_ end_ ge gq gb parts ger) : ge = e ∧ gq = q ∧ gb = wholeB b ∧ parts = (needN b.length : Nat) ∧ ger = 0 := by
  have hr := need_room b.length
  have h0 := h.o (k := 0) (by omega)
  rcases hg with ⟨h1, _⟩ | ⟨_, ⟨n, h1, h2, _, h4, h5, h6, h7, h8⟩ | ⟨k, h1, h2, h3, _⟩⟩
  · rw [hd] at h1; cases h1
  · rw [h0] at h2 h4 h5
    have hn : n = needN b.length := by dsimp only at h2; omega
    subst hn
    exact ⟨h4, h5, by rw [h6, h.all], h7, h8⟩
  · rw [h0] at h1
    dsimp only at h1
    exact absurd ⟨by omega, h.ok (by omega)⟩ h3
theorem Holds.short {S : DS} {at_ e q : Int} {b : List UInt8} (h : Holds S at_ e q b) (hd : S.down = false) {end_ : Int} (h0e : at_ < end_) (he : end_ < at_ + (needN b.length : Nat)) {ge gq parts ger : Int} {gb : List UInt8} (hg : GatherR S at_ end_ ge gq gb parts ger) : ger = 2 := by
  have hr := need_room b.length
  have h0 := h.o (k := 0) (by omega)
  rcases hg with ⟨h1, _⟩ | ⟨_, ⟨n, h1, h2, h3, _⟩ | ⟨k, _, _, _, _, _, _, _, h8⟩⟩
  · rw [hd] at h1; cases h1
  · rw [h0] at h2
    have := (h3 (n - 1) (by omega)).1
    dsimp only at h2
    omega
  · exact h8
theorem whole_drop (b : List UInt8) : (wholeB b).drop 4 = b := by unfold wholeB sumB; rfl
theorem readEnd_whole (at_ e q : Int) (b : List UInt8) : readEnd at_ e q (wholeB b) (needN b.length : Nat) 0 = (e, q, b, at_ + (needN b.length : Nat), 0) := by
  unfold readEnd
  rw [if_neg (by simp), whole_drop, wholeB_len, Nat.add_sub_cancel, if_neg (by rintro (h | h | h) <;> first | omega | exact h rfl)]
theorem Holds.read {S : DS} {at_ e q : Int} {b : List UInt8} (h : Holds S at_ e q b) (hd : S.down = false) {end_ : Int} (h0 : 0 ≤ at_) (he : at_ + (needN b.length : Nat) ≤ end_) (hl : end_ ≤ S.secs.length) {r : Int × Int × List UInt8 × Int × Int} (hr : FrR S at_ end_ r) : r = (e, q, b, at_ + (needN b.length : Nat), 0) := by
  have hn := need_room b.length
  unfold FrR at hr
  rw [if_neg (by omega)] at hr
  obtain ⟨ge, gq, gb, parts, ger, hg, rfl⟩ := hr
  obtain ⟨rfl, rfl, rfl, rfl, rfl⟩ := h.gather hd he hg
  exact readEnd_whole _ _ _ _
/-- A record that is written stands there. -/
theorem fw_ok {S : DS} (hu : Up S) {at_ e q : Int} {b : List UInt8} (hm : mayM e q = true) (hn : needN b.length ≤ 255) (h0 : 0 ≤ at_) (h1 : at_ + (needN b.length : Nat) ≤ S.secs.length) {S' : DS} {next er : Int} (hf : FwR S at_ e q b S' next er) :
    S' = { S with pend := S.pend ++ putP at_ (secB e q b) (needN b.length) } ∧ next = at_ + (needN b.length : Nat) ∧ er = 0 := by
  replace hf := hf.out
  rw [if_neg (by rw [hm]; simp; omega), if_neg (by omega)] at hf
  exact put_ends hu h0 h1 (fun k hk => secB_len hm hn hk) hf
theorem fw_holds {S : DS} {at_ e q : Int} {b : List UInt8} (hm : mayM e q = true) (hn : needN b.length ≤ 255) : Holds { S with pend := S.pend ++ putP at_ (secB e q b) (needN b.length) } at_ e q b := ⟨hm, hn, fun k hk => read_in hk⟩
theorem fw_keeps {S : DS} {at_ e q a e' q' : Int} {b c : List UInt8} (hc : Holds S a e' q' c) (h : at_ + (needN b.length : Nat) ≤ a ∨ a + (needN c.length : Nat) ≤ at_) : Holds { S with pend := S.pend ++ putP at_ (secB e q b) (needN b.length) } a e' q' c :=
  ⟨hc.1, hc.2.1, fun k hk => by rw [read_out (by omega)]; exact hc.2.2 k hk⟩
theorem fw_range {S : DS} {at_ e q : Int} {b : List UInt8} (hm : mayM e q = true) (hn : needN b.length ≤ 255) (h : at_ < 0 ∨ (S.secs.length : Int) - (needN b.length : Nat) < at_) {S' : DS} {next er : Int} (hf : FwR S at_ e q b S' next er) : S' = S ∧ next = 0 ∧ er = 9 := by
  replace hf := hf.out
  rw [if_neg (by rw [hm]; simp; omega), if_pos h] at hf
  exact hf
theorem fw_arg {S : DS} {at_ e q : Int} {b : List UInt8} (h : mayM e q = false ∨ 255 < needN b.length) {S' : DS} {next er : Int} (hf : FwR S at_ e q b S' next er) : S' = S ∧ next = 0 ∧ er = 1 := by
  replace hf := hf.out
  rw [if_pos h] at hf
  exact hf
end Go.Proofs.YthocicjjighbnaaX
