/- Appending to a slice that nobody writes any more, where it does not fit: a block of its own. Own lemmas, no program in sight. -/
import Derived.Test.YtlmmpcdjkpibcaaX8
namespace Go.Proofs.YtlmmpcdjkpibcaaX
set_option linter.unusedVariables false
open Go Go.RowKit
variable {w0 w : World} {I : Imm} {L : Own} {P : Program} {l : Env} {ty : TypeId}
theorem runs_appendRF {t e : TypeId} {z : Value} {size bytes : Nat} (ht : P.underlying t = some (.slice e)) (he : TI P e z size bytes) (hz : z.cells.size = size) (h0 : 0 < size) {x y : Operand} {u : Value} {n m cap : Nat} {A : Option Addr} {xs news : List Value} (hx : ev l x = some (.slice A n cap)) (hy : ev l y = some u)
    (hst : St w0 w I L) (hv : RdL I size (.slice A n cap) n xs) (hr : RdL I size u m news) (hm : cap < n + m) (h00 : A = none → cap = 0) (hb : (n + m) * bytes ≤ 140737488355328) (hmax : n + m ≤ maxLen) :
    ∃ v' w', Runs P (.call ⟨.builtin .append, #[x, y], #[t, t]⟩) ty l w (.value v') w' ∧ ∃ Lv', St w0 w' I (Lv' ++ L) ∧ Grow e size v' (n + m) (xs ++ news) Lv' := by
  obtain ⟨B, c, rfl, h1⟩ := hr.src hst
  obtain ⟨A2, c2, e2, h2⟩ := hv.src hst
  cases e2
  obtain ⟨hxl, hxo, A3, c3, e3, hle, _⟩ := hv
  cases e3
  obtain ⟨i, hi1, hi2, hi3, hi4⟩ := he.get
  have hmpos : 0 < m := by omega
  have hpos : 0 < news.length := by rw [hr.1]; exact Nat.mul_pos hmpos h0
  obtain ⟨b, rfl, _⟩ := h1 0 news[0] (by simp [hpos])
  have hsrc' : ∀ j u, news[j]? = some u → w.cell? (b.add j) = some u := fun j u hj => by
    obtain ⟨a', h3, h4⟩ := h1 j u hj
    cases h3; exact h4
  have key : ∃ v' w' Lv', (Builtin.append_ #[t, t] ty #[.slice A n cap, .slice (some b) m c]).run P w = .ok v' w' ∧ St w0 w' I (Lv' ++ L) ∧ Grow e size v' (n + m) (xs ++ news) Lv' := by
    cases A with
    | none =>
      have hxs : xs = [] := by
        cases xs with
        | nil => rfl
        | cons q r => obtain ⟨a, h3, _⟩ := h2 0 q rfl; cases h3
      subst hxs
      have hn0 : n = 0 := by
        rcases Nat.eq_zero_or_pos n with h | h
        · exact h
        · have := Nat.mul_pos h h0
          simp at hxl
          omega
      subst hn0
      obtain rfl := h00 rfl
      obtain ⟨v', w', Lv', h7, h8, h9⟩ := run_appendG (P := P) (ty := ty) ht he hz h0 (Lv := []) hst (Grow.nil e size) hr.1 (B := some b) (c := c) (fun j u hj => ⟨b, rfl, hsrc' j u hj⟩) hr.2.1 hb hmax
      exact ⟨v', w', Lv', h7, h8, h9⟩
    | some a =>
      have hold : ∀ j u, xs[j]? = some u → w.cell? (a.add j) = some u := fun j u hj => by
        obtain ⟨a', h3, h4⟩ := h2 j u hj
        cases h3; exact h4
      obtain ⟨v', w', h7, h8, h9⟩ := run_append_arg_grows (P := P) w t ty e i z size bytes ht hi1 hi2 hi3 hi4 hz h0 a n cap xs hxl hold b m c news hr.1 hsrc' hm hmax hb
      obtain ⟨h11, ⟨e1, e2⟩ | ⟨g', cap', cur', rfl, hge, hheap', h12, h13, h14, h15⟩⟩ := h8
      · omega
      · exact ⟨_, w', [(g', .cells cur' e)], h7, hst.cons_new h9 hge hheap', h11, fun u hu => (List.mem_append.1 hu).elim (hxo u) (hr.2.1 u), .inr ⟨g', cap', cur', rfl, rfl, h12, h13, h14, h15⟩⟩
  obtain ⟨v', w', Lv', h7, h8, h9⟩ := key
  exact ⟨v', w', Runs.bi (args := [x, y]) (vs := [.slice A n cap, .slice (some b) m c]) (by simp [evs, hx, hy]) fun consts => by simp only [builtin, Sem.run_bind, h7]; rfl, Lv', h8, h9⟩
/-- One text before another: some answer, and the world as it was. -/
theorem runs_lssS {t t' : TypeId} {x y : Operand} {a b : ByteArray} (hx : ev l x = some (.string a)) (hy : ev l y = some (.string b)) :
    Runs P (.binOp .lss t x y t') ty l w (.value (.bool (Op.bytesLess a.toList b.toList))) w :=
  .of (fun ρ => do eqGuard .lss t x y (ρ x) (ρ y); binOp .lss t (ρ x) (ρ y)) (fun _ _ _ _ _ => rfl) fun ρ hρ => by
    simp only [hρ x _ hx, hρ y _ hy]; rfl
end Go.Proofs.YtlmmpcdjkpibcaaX
