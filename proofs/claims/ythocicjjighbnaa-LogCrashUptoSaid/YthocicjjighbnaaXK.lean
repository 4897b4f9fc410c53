/- Slices of slices of bytes that are one's own, and grow. Own lemmas, no program in sight. -/
import Derived.Test.YthocicjjighbnaaXE
import Derived.Test.YthocicjjighbnaaXB
namespace Go.Proofs.YthocicjjighbnaaX
set_option linter.unusedVariables false
set_option linter.unusedSimpArgs false
open Go Go.RowKit
variable {w0 w : World} {I : Imm} {L : Own} {P : Program} {l : Env} {ty : TypeId}

def GrowR (I : Imm) (e : TypeId) (v : Value) (bss : List (List UInt8)) (Lv : Own) : Prop :=
  ∃ vs : List Value, Grow e 1 v vs.length vs Lv ∧ vs.length = bss.length ∧ ∀ (i : Nat) (u : Value) (b : List UInt8), vs[i]? = some u → bss[i]? = some b → RdB I u b
theorem GrowR.mono {I' : Imm} {e : TypeId} {v : Value} {bss : List (List UInt8)} {Lv : Own} (h : GrowR I e v bss Lv) (hI : I.le I') : GrowR I' e v bss Lv :=
  let ⟨vs, h1, h2, h3⟩ := h
  ⟨vs, h1, h2, fun i u b h4 h5 => RdL.mono hI (h3 i u b h4 h5)⟩
theorem GrowR.nil (e : TypeId) : GrowR I e (.slice none 0 0) [] [] := ⟨[], Grow.nil e 1, rfl, fun i u b h => by simp at h⟩
theorem GrowR.freeze {e : TypeId} {v : Value} {bss : List (List UInt8)} {Lv : Own} (hg : GrowR I e v bss Lv) (h : St w0 w I (Lv ++ L)) : ∃ I' vs, I.le I' ∧ St w0 w I' L ∧ RdR I' v vs bss := by
  obtain ⟨vs, h1, h2, h3⟩ := hg
  obtain ⟨I', h4, h5, h6⟩ := h1.freeze h
  exact ⟨I', vs, h4, h5, h6, h2, fun i u b h7 h8 => RdL.mono h4 (h3 i u b h7 h8)⟩
theorem rows_snoc {vs : List Value} {bss : List (List UInt8)} {c : Value} {b : List UInt8} (hl : vs.length = bss.length) (h : ∀ (i : Nat) (u : Value) (b : List UInt8), vs[i]? = some u → bss[i]? = some b → RdB I u b) (hc : RdB I c b) :
    ∀ (i : Nat) (u : Value) (d : List UInt8), (vs ++ [c])[i]? = some u → (bss ++ [b])[i]? = some d → RdB I u d := by
  intro i u d h1 h2
  by_cases hi : i < vs.length
  · rw [List.getElem?_append_left hi] at h1
    rw [List.getElem?_append_left (by omega)] at h2
    exact h i u d h1 h2
  · rw [List.getElem?_append_right (by omega)] at h1
    rw [List.getElem?_append_right (by omega)] at h2
    have h3 := (List.getElem?_eq_some_iff.1 h1).1
    have h4 : i - vs.length = 0 := by simp at h3; omega
    rw [h4] at h1
    rw [show i - bss.length = 0 by omega] at h2
    simp at h1 h2
    subst h1 h2
    exact hc
/-- A row appended to one's own rows. -/
theorem runs_appendRow {t e : TypeId} {z : Value} {bytes : Nat} (ht : P.underlying t = some (.slice e)) (he : TI P e z 1 bytes) (hz : z.cells.size = 1) {x y : Operand} {v u c : Value} {bss : List (List UInt8)} {b : List UInt8} {Lv : Own} (hx : ev l x = some v) (hy : ev l y = some u)
    (hst : St w0 w I (Lv ++ L)) (hg : GrowR I e v bss Lv) (hr : RdL I 1 u 1 [c]) (hc : RdB I c b) (hb : (bss.length + 1) * bytes ≤ 140737488355328) (hmax : bss.length + 1 ≤ maxLen) :
    ∃ v' w', Runs P (.call ⟨.builtin .append, #[x, y], #[t, t]⟩) ty l w (.value v') w' ∧ ∃ Lv', St w0 w' I (Lv' ++ L) ∧ GrowR I e v' (bss ++ [b]) Lv' := by
  obtain ⟨vs, h1, h2, h3⟩ := hg
  obtain ⟨v', w', h4, Lv', h5, h6⟩ := runs_appendR (ty := ty) ht he hz (by decide) hx hy hst h1 hr (by rw [h2]; exact hb) (by rw [h2]; exact hmax)
  exact ⟨v', w', h4, Lv', h5, vs ++ [c], by simpa using h6, by simp [h2], rows_snoc h2 h3 hc⟩
/-- An append to a slice that nobody writes any more, without room behind: a new block. -/
theorem runs_appendRowF {t e : TypeId} {z : Value} {bytes : Nat} (ht : P.underlying t = some (.slice e)) (he : TI P e z 1 bytes) (hz : z.cells.size = 1) {x y : Operand} {A : Option Addr} {u c : Value} {vs : List Value} {bss : List (List UInt8)} {b : List UInt8} (hx : ev l x = some (.slice A vs.length vs.length)) (hy : ev l y = some u)
    (hst : St w0 w I L) (hg : RdR I (.slice A vs.length vs.length) vs bss) (hr : RdL I 1 u 1 [c]) (hc : RdB I c b) (hb : (bss.length + 1) * bytes ≤ 140737488355328) (hmax : bss.length + 1 ≤ maxLen) :
    ∃ v' w', Runs P (.call ⟨.builtin .append, #[x, y], #[t, t]⟩) ty l w (.value v') w' ∧ ∃ Lv', St w0 w' I (Lv' ++ L) ∧ GrowR I e v' (bss ++ [b]) Lv' := by
  obtain ⟨h1, h2, h3⟩ := hg
  cases A with
  | none =>
    have h0 : vs.length = 0 := by
      cases vs with
      | nil => rfl
      | cons a r =>
        obtain ⟨_, _, A, cap, e1, _, e2⟩ := h1
        cases e1
        obtain ⟨_, h, _⟩ := e2 0 a rfl
        cases h
    obtain rfl : vs = [] := List.eq_nil_of_length_eq_zero h0
    obtain rfl : bss = [] := List.eq_nil_of_length_eq_zero (by rw [← h2]; rfl)
    exact runs_appendRow ht he hz hx hy (Lv := []) hst (GrowR.nil e) hr hc hb hmax
  | some a =>
    obtain ⟨i, hi1, hi2, hi3, hi4⟩ := he.get
    obtain ⟨B, cc, rfl, hsrc⟩ := hr.src hst
    obtain ⟨a1, rfl, _⟩ := hsrc 0 c rfl
    have hold : ∀ j u, vs[j]? = some u → w.cell? (a.add j) = some u := fun j u hj => by
      obtain ⟨_, _, A, cap, e1, _, e2⟩ := h1
      cases e1
      obtain ⟨a', e3, e4⟩ := e2 j u hj
      cases e3
      exact hst.cell_imm e4
    obtain ⟨v', w', h7, h8, h9⟩ := run_append_arg_grows (P := P) w t ty e i z 1 bytes ht hi1 hi2 hi3 hi4 hz (by decide) a vs.length vs.length vs (by simp) hold a1 1 cc [c] rfl (fun j u hj => by
      obtain ⟨a', e1, e2⟩ := hsrc j u hj
      cases e1; exact e2) (by omega) (by rw [h2]; exact hmax) (by rw [h2]; exact hb)
    obtain ⟨h11, ⟨e1, e2⟩ | ⟨g', cap', cur', rfl, hge, hheap', h12, h13, h14, h15⟩⟩ := h8
    · omega
    · refine ⟨_, w', Runs.bi (args := [x, y]) (vs := [.slice (some a) vs.length vs.length, .slice (some a1) 1 cc]) (by simp [evs, hx, hy]) (fun consts => by simp only [builtin, Sem.run_bind, h7]; rfl), [(g', .cells cur' e)], hst.cons_new h9 hge hheap', vs ++ [c], ?_, by simp [h2], rows_snoc h2 h3 hc⟩
      have hone : ∀ u ∈ vs ++ [c], u.oneCell' = true := fun u hu => (List.mem_append.1 hu).elim (h1.2.1 u) (hr.2.1 u)
      refine ⟨by simp, hone, .inr ⟨g', cap', cur', by simp, rfl, by simpa using h12, h13, h14, by simpa using h15⟩⟩
end Go.Proofs.YthocicjjighbnaaX
